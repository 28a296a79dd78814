import Derived.Test.YtbkhjpclnfljbaaDoorJxW23MB
import Derived.Test.YtbkhjpclnfljbaaDoorJxW23MA
import Derived.Test.YtbkhjpclnfljbaaDoorJxW23MC
/- The document's views: the cursor, the next cell. -/
set_option linter.unusedSimpArgs false
set_option linter.unusedVariables false
set_option maxHeartbeats 1000000
set_option maxRecDepth 100000
namespace Go.Proofs.YtbkhjpclnfljbaaDoor
open Go Go.Jx

/-- A view of the document's. -/
abbrev rvO (id : Nat) (lv : SV) (v : Vw) : Hp := [(id, .cells 54 .own [lv, .int .i64 v.h, .int .i64 v.top, .int .i64 v.x, .int .i64 v.y, .bool v.m.isSome, .int .i64 (v.m.getD (0, 0)).1, .int .i64 (v.m.getD (0, 0)).2])]
theorem w54 {n lo hi : Int} {h : Heap} (hle : lo ≤ hi) : Wc DD 54 [i64 n, i64 lo, i64 hi] h fun w h' => w = i64 (near n lo hi) ∧ h' = h := by
  have hs := Sep.entry h
  refine W_enter d54 ?_
  show W _ (.code m54_code [i64 n, i64 lo, i64 hi, undefA, undefA, undefA, undefA, undefA, undefA, undefA, undefA, undefA, undefA, undefA, undefA, undefA] _) _
  unfold m54_code
  repeat' (first
    | (refine K_ops ?_; first
      | refine W_fastB rfl ?_
      | refine W_nil ?_
    )
    | (refine K_code ?_; first
      | refine W_seq ?_
      | refine W_ops ?_
      | (refine W_cond rfl (fun hc => ?_) (fun hc => ?_) <;> (try rw [hc]) <;> (try simp only [decide_eq_true_eq, decide_eq_false_iff_not, beq_iff_eq, beq_eq_false_iff_ne, bne_iff_ne, bne_eq_false_iff_eq, Bool.not_eq_true', Bool.not_eq_false', Int.not_lt, Int.not_le, ne_eq, reduceCtorEq, not_true_eq_false, not_false_eq_true, Decidable.not_not] at hc) <;> (try (exfalso; omega)) <;> (try refine W_norm rfl ?_))
      | refine W_skip ?_
      | refine W_ret ?_
    )
    | refine seqK_n ?_
    | refine seqK_r ?_
    | (refine fnK_r rfl ?_; try dsimp only [gd_z, gd_s]))
  · exact ⟨_, rfl, by unfold near; congr 2; omega, rfl⟩
  · exact ⟨_, rfl, by unfold near; congr 2; omega, rfl⟩
  · exact ⟨_, rfl, by unfold near; congr 2; omega, rfl⟩
theorem w41 {R : Ro} {M : List Hp} {h : Heap} {id : Nat} {lv : SV} {v : Vw} {G : List LnC} {x y : Int} (hs : Sep R (rvO id lv v :: M) h) (hG : LnsR R lv G) (hm : G.map lnOf = v.L) (ok : OkV v) (hx : -9223372036854775808 ≤ x ∧ x ≤ 9223372036854775807) (hy : -9223372036854775808 ≤ y ∧ y ≤ 9223372036854775807) :
    Wc DD 41 [.sc (.ptr id 0), i64 x, i64 y] h fun w h' => w = .tup [] ∧ Sep R (rvO id lv (toV v x y) :: M) h' := by
  have hlen : G.length = v.L.length := by rw [← hm, List.length_map]
  have hl : Len lv v.L.length := by have := hG.ln; rwa [hlen] at this
  have ok1 := ok.l.len
  have ok2 := ok.l.big
  have hn := near_in (n := y) (lo := 0) (hi := (v.L.length : Int) - 1) (by omega)
  obtain ⟨Y, hY⟩ : ∃ Y : Nat, near y 0 ((v.L.length : Int) - 1) = (Y : Int) := ⟨(near y 0 ((v.L.length : Int) - 1)).toNat, by omega⟩
  have hYl : Y < G.length := by omega
  have hw := wid_at hm hYl
  have hwl := ok.l.wid (y := (Y : Int)) (by omega) (by omega)
  have hrl := (hG.at hYl).ln
  have hln := hG.1
  have ht := ok.t0
  have ht2 := ok.t1
  have hh := ok.l.h1
  have hh2 := ok.l.h2
  obtain ⟨T, hT⟩ : ∃ T, T = near v.top ((Y : Int) - v.h + 1) (Y : Int) := ⟨_, rfl⟩
  have e : toV v x y = { v with y := (Y : Int), x := near x 0 (((atC G Y).length : Int) - 1), top := T } := by
    unfold toV; rw [hY, hw, hT]
  rw [e]
  have hTv : ∀ t : Int, ((Y : Int) < v.top → t = Y) → (¬ (Y : Int) < v.top → v.top + v.h ≤ Y → t = Y - v.h + 1) → (¬ (Y : Int) < v.top → ¬ v.top + v.h ≤ Y → t = v.top) → t = T := by
    intro t a1 a2 a3
    rw [hT]
    unfold near
    by_cases c1 : (Y : Int) < v.top
    · rw [a1 c1]; omega
    · by_cases c2 : v.top + v.h ≤ Y
      · rw [a2 c1 c2]; omega
      · rw [a3 c1 c2]; omega
  clear hT
  refine W_enter d41 ?_
  show W _ (.code m41_code [.sc (.ptr id 0), i64 x, i64 y, undefA, undefA, undefA, undefA, undefA, undefA, undefA, undefA, undefA, undefA, undefA, undefA, undefA, undefA, undefA, undefA, undefA, undefA, undefA, undefA, undefA, undefA, undefA, undefA, undefA, undefA, undefA, undefA, undefA, undefA, undefA, undefA, undefA, undefA, undefA, undefA, undefA, undefA, undefA, undefA, undefA, undefA, undefA, undefA, undefA, undefA, undefA, undefA, undefA, undefA, undefA, undefA, undefA, undefA, undefA, undefA, undefA, undefA, undefA, undefA, undefA, undefA, undefA, undefA, undefA, undefA, undefA, undefA, undefA, undefA, undefA, undefA, undefA, undefA, undefA] _) _
  unfold m41_code
  repeat' (first
    | (refine K_ops ?_; first
      | refine W_fastB rfl ?_
      | refine W_nil ?_
      | (refine K_call ?_; first
        | (refine W_callsN 54 rfl (w54 (by omega)) rfl ?_; rintro _ h ⟨rfl, rfl⟩; (try rw [hY]); refine W_norm rfl ?_)
      )
      | (refine W_lenL rfl (by first | assumption | exact SlR.ln (by assumption) | exact AccS.ln (by assumption) | exact OwnS.ln (by assumption) | exact VwO.ln (by assumption) | exact OwnP.ln (by assumption) | exact Len.sl) ?_; refine W_norm rfl ?_)
      | (refine K_bin ?_; first
        | (refine W_add rfl rfl (IntWalk.i64_in _ (by first | omega | (simp only [List.length_set, List.length_append, List.length_take, List.length_drop, List.length_replicate, List.length_cons, List.length_nil, decs_length, List.length_map]; omega))) ?_; refine W_norm rfl ?_)
        | (refine W_sub rfl rfl (IntWalk.i64_in _ (by first | omega | (simp only [List.length_set, List.length_append, List.length_take, List.length_drop, List.length_replicate, List.length_cons, List.length_nil, decs_length, List.length_map]; omega))) ?_; refine W_norm rfl ?_)
      )
      | (refine K_index ?_; first
        | (refine W_indexR rfl rfl (by assumption) rfl ⟨(by first | omega | (simp only [List.length_set, List.length_append, List.length_take, List.length_drop, List.length_replicate, List.length_cons, List.length_nil, decs_length, List.length_map]; omega)), (by first | omega | (simp only [List.length_set, List.length_append, List.length_take, List.length_drop, List.length_replicate, List.length_cons, List.length_nil, decs_length, List.length_map]; omega))⟩ ?_; intro _ _ _; refine W_norm rfl ?_)
      )
      | (refine K_load ?_; first
        | (refine W_loadR hs rfl (by assumption) rfl ?_; refine W_norm rfl ?_)
        | (refine W_loadC hs 0 rfl rfl rfl ?_; refine W_norm rfl ?_)
      )
      | (refine K_store ?_; first
        | (refine W_storeC hs 0 rfl rfl rfl rfl (by first | decide | assumption) rfl rfl ?_; clear hs; intro _ hs; try simp only [cell_back, attr_back, List.set_cons_zero, List.set_cons_succ, List.eraseIdx_cons_succ, List.eraseIdx_zero, List.tail_cons, List.nil_append, List.cons_append] at hs; refine W_norm rfl ?_)
      )
    )
    | (refine K_code ?_; first
      | refine W_seq ?_
      | refine W_ops ?_
      | (refine W_cond rfl (fun hc => ?_) (fun hc => ?_) <;> (try rw [hc]) <;> (try simp only [decide_eq_true_eq, decide_eq_false_iff_not, beq_iff_eq, beq_eq_false_iff_ne, bne_iff_ne, bne_eq_false_iff_eq, Bool.not_eq_true', Bool.not_eq_false', Int.not_lt, Int.not_le, ne_eq, reduceCtorEq, not_true_eq_false, not_false_eq_true, Decidable.not_not] at hc) <;> (try (exfalso; omega)) <;> (try refine W_norm rfl ?_))
      | refine W_skip ?_
      | refine W_draw rfl ?_
    )
    | refine seqK_n ?_
    | (refine fnK_n rfl ?_; try dsimp only [gd_z, gd_s]))
  all_goals refine ⟨_, rfl, rfl, ?_⟩
  all_goals first
    | (rw [← hTv (Y : Int) (by intros; omega) (by intros; omega) (by intros; omega)]; exact hs)
    | (rw [← hTv ((Y : Int) - v.h + 1) (by intros; omega) (by intros; omega) (by intros; omega)]; exact hs)
    | (rw [← hTv v.top (by intros; omega) (by intros; omega) (by intros; omega)]; exact hs)
theorem w42 {R : Ro} {M : List Hp} {h : Heap} {id : Nat} {lv : SV} {v : Vw} {G : List LnC} {x y : Int} (hs : Sep R (rvO id lv v :: M) h) (hG : LnsR R lv G) (hm : G.map lnOf = v.L) (ok : OkV v) :
    Wc DD 42 [.sc (.ptr id 0), i64 x, i64 y] h fun w h' => w = .tup [] ∧ Sep R (rvO id lv (moveV v x y) :: M) h' := by
  have hx := near_in (n := x) (lo := -1000) (hi := 1000) (by omega)
  have hy := near_in (n := y) (lo := -1000) (hi := 1000) (by omega)
  have ok2 := ok.l.big
  have b1 := ok.x0
  have b2 := ok.x1
  have b3 := ok.y0
  have b4 := ok.y1
  have b5 := (ok.l.wid ok.y0 ok.y1).2
  refine W_enter d42 ?_
  show W _ (.code m42_code [.sc (.ptr id 0), i64 x, i64 y, undefA, undefA, undefA, undefA, undefA, undefA, undefA, undefA, undefA, undefA, undefA, undefA, undefA, undefA, undefA, undefA, undefA, undefA, undefA] _) _
  unfold m42_code
  repeat' (first
    | (refine K_ops ?_; first
      | refine W_fastB rfl ?_
      | refine W_nil ?_
      | (refine K_call ?_; first
        | (refine W_callsN 54 rfl (w54 (by omega)) rfl ?_; rintro _ h ⟨rfl, rfl⟩; refine W_norm rfl ?_)
        | (refine W_callsN 41 rfl (w41 hs hG hm ok (by omega) (by omega)) rfl ?_; rintro _ h2 ⟨rfl, hs⟩; refine W_norm rfl ?_)
      )
      | (refine K_bin ?_; first
        | (refine W_add rfl rfl (IntWalk.i64_in _ (by first | omega | (simp only [List.length_set, List.length_append, List.length_take, List.length_drop, List.length_replicate, List.length_cons, List.length_nil, decs_length, List.length_map]; omega))) ?_; refine W_norm rfl ?_)
      )
      | (refine K_load ?_; first
        | (refine W_loadC hs 0 rfl rfl rfl ?_; refine W_norm rfl ?_)
      )
    )
    | (refine K_code ?_; first
      | refine W_draws ?_
    )
    | refine W_dstep rfl ?_
    | refine ⟨rfl, fun rc hrec => ?_⟩
    | (refine W_dnilS (by simp only [List.reverse_cons, List.reverse_nil, List.nil_append, List.cons_append]; rfl) (by repeat' first | exact CL_nil _ _ | refine CL_skip rfl ?_ | refine CL_load (by assumption) rfl (by first | exact trivial | (repeat' first | exact trivial | refine ⟨⟨_, rfl, (by refine (congrArg (fun x => Heap.get x _) (RecIs.hh (by assumption))).trans ?_; first | rfl | exact PtR.same_get (by assumption) (by assumption) (by assumption) | exact Sep.same_get (by assumption) (by assumption) 0 0 rfl rfl | exact Sep.same_get (by assumption) (by assumption) 0 1 rfl rfl | exact Sep.same_get (by assumption) (by assumption) 0 2 rfl rfl | exact Sep.same_get (by assumption) (by assumption) 0 3 rfl rfl | exact Sep.same_get (by assumption) (by assumption) 1 0 rfl rfl | exact Sep.same_get (by assumption) (by assumption) 1 1 rfl rfl | exact Sep.same_get (by assumption) (by assumption) 1 2 rfl rfl | exact Sep.same_get (by assumption) (by assumption) 1 3 rfl rfl | exact Sep.same_get (by assumption) (by assumption) 2 0 rfl rfl | exact Sep.same_get (by assumption) (by assumption) 2 1 rfl rfl | exact Sep.same_get (by assumption) (by assumption) 2 2 rfl rfl | exact Sep.same_get (by assumption) (by assumption) 2 3 rfl rfl | exact Sep.same_get (by assumption) (by assumption) 3 0 rfl rfl | exact Sep.same_get (by assumption) (by assumption) 3 1 rfl rfl | exact Sep.same_get (by assumption) (by assumption) 3 2 rfl rfl | exact Sep.same_get (by assumption) (by assumption) 3 3 rfl rfl)⟩, ?_⟩)) (by first | exact trivial | (repeat' first | exact trivial | refine ⟨⟨_, rfl, (by refine (congrArg (fun x => Heap.get x _) (RecIs.hh' (by assumption))).trans ?_; first | rfl | exact PtR.same_get (by assumption) (by assumption) (by assumption) | exact Sep.same_get (by assumption) (by assumption) 0 0 rfl rfl | exact Sep.same_get (by assumption) (by assumption) 0 1 rfl rfl | exact Sep.same_get (by assumption) (by assumption) 0 2 rfl rfl | exact Sep.same_get (by assumption) (by assumption) 0 3 rfl rfl | exact Sep.same_get (by assumption) (by assumption) 1 0 rfl rfl | exact Sep.same_get (by assumption) (by assumption) 1 1 rfl rfl | exact Sep.same_get (by assumption) (by assumption) 1 2 rfl rfl | exact Sep.same_get (by assumption) (by assumption) 1 3 rfl rfl | exact Sep.same_get (by assumption) (by assumption) 2 0 rfl rfl | exact Sep.same_get (by assumption) (by assumption) 2 1 rfl rfl | exact Sep.same_get (by assumption) (by assumption) 2 2 rfl rfl | exact Sep.same_get (by assumption) (by assumption) 2 3 rfl rfl | exact Sep.same_get (by assumption) (by assumption) 3 0 rfl rfl | exact Sep.same_get (by assumption) (by assumption) 3 1 rfl rfl | exact Sep.same_get (by assumption) (by assumption) 3 2 rfl rfl | exact Sep.same_get (by assumption) (by assumption) 3 3 rfl rfl)⟩, ?_⟩)) ?_) ?_)
    | (refine fnK_n rfl ?_; try dsimp only [gd_z, gd_s]))
  exact ⟨_, rfl, rfl, hs⟩
theorem w55 {R : Ro} {M : List Hp} {h : Heap} {id : Nat} {lv : SV} {v : Vw} {G : List LnC} {c : Spot} {d : Int} (hs : Sep R (rvO id lv v :: M) h) (hG : LnsR R lv G) (hm : G.map lnOf = v.L) (ok : OkV v) (hc : InV v.L c) (hd : d = 1 ∨ d = -1) :
    Wc DD 55 [.sc (.ptr id 0), i64 c.1, i64 c.2, i64 d] h fun w h' => (w = .tup [i64 (if d = 1 then stepF v.L c else stepB v.L c).1, i64 (if d = 1 then stepF v.L c else stepB v.L c).2]) ∧ h' = h := by
  have hlen : G.length = v.L.length := by rw [← hm, List.length_map]
  have hl : Len lv v.L.length := by have := hG.ln; rwa [hlen] at this
  have hln := hG.1
  have hGl : (G.map Prod.fst).length = v.L.length := by rw [List.length_map]; exact hlen
  have ok1 := ok.l.len
  have ok2 := ok.l.big
  obtain ⟨c1, c2⟩ := c
  obtain ⟨i1, i2, i3, i4⟩ := hc
  simp only at i1 i2 i3 i4
  have hwl := ok.l.wid i1 i2
  obtain ⟨Y, rfl⟩ : ∃ Y : Nat, c2 = (Y : Int) := ⟨c2.toNat, by omega⟩
  have hYl : Y < G.length := by omega
  have hw := wid_at hm hYl
  have hrl := (hG.at hYl).ln
  rcases hd with rfl | rfl
  · rw [if_pos rfl]
    refine W_enter d55 ?_
    show W _ (.code m55_code [.sc (.ptr id 0), i64 c1, i64 (Y : Int), i64 1, undefA, undefA, undefA, undefA, undefA, undefA, undefA, undefA, undefA, undefA, undefA, undefA, undefA, undefA, undefA, undefA, undefA, undefA, undefA, undefA, undefA, undefA, undefA, undefA, undefA, undefA, undefA, undefA, undefA, undefA, undefA, undefA, undefA, undefA, undefA, undefA, undefA, undefA, undefA, undefA, undefA, undefA, undefA, undefA, undefA, undefA, undefA, undefA, undefA, undefA, undefA, undefA] _) _
    unfold m55_code
    repeat' (first
      | (refine K_ops ?_; first
        | refine W_fastB rfl ?_
        | refine W_nil ?_
        | (refine W_lenL rfl (by first | assumption | exact SlR.ln (by assumption) | exact AccS.ln (by assumption) | exact OwnS.ln (by assumption) | exact VwO.ln (by assumption) | exact OwnP.ln (by assumption) | exact Len.sl) ?_; refine W_norm rfl ?_)
        | (refine K_bin ?_; first
          | (refine W_add rfl rfl (IntWalk.i64_in _ (by first | omega | (simp only [List.length_set, List.length_append, List.length_take, List.length_drop, List.length_replicate, List.length_cons, List.length_nil, decs_length, List.length_map]; omega))) ?_; refine W_norm rfl ?_)
          | (refine W_mod rfl rfl (by omega) ?_; refine W_norm rfl ?_)
        )
        | (refine K_index ?_; first
          | (refine W_indexR rfl rfl (by assumption) rfl ⟨(by first | omega | (simp only [List.length_set, List.length_append, List.length_take, List.length_drop, List.length_replicate, List.length_cons, List.length_nil, decs_length, List.length_map]; omega)), (by first | omega | (simp only [List.length_set, List.length_append, List.length_take, List.length_drop, List.length_replicate, List.length_cons, List.length_nil, decs_length, List.length_map]; omega))⟩ ?_; intro _ _ _; refine W_norm rfl ?_)
        )
        | (refine K_load ?_; first
          | (refine W_loadR hs rfl (by assumption) rfl ?_; refine W_norm rfl ?_)
          | (refine W_loadC hs 0 rfl rfl rfl ?_; refine W_norm rfl ?_)
        )
      )
      | (refine K_code ?_; first
        | refine W_seq ?_
        | refine W_ops ?_
        | (refine W_cond rfl (fun hc => ?_) (fun hc => ?_) <;> (try rw [hc]) <;> (try simp only [decide_eq_true_eq, decide_eq_false_iff_not, beq_iff_eq, beq_eq_false_iff_ne, bne_iff_ne, bne_eq_false_iff_eq, Bool.not_eq_true', Bool.not_eq_false', Int.not_lt, Int.not_le, ne_eq, reduceCtorEq, not_true_eq_false, not_false_eq_true, Decidable.not_not] at hc) <;> (try (exfalso; omega)) <;> (try refine W_norm rfl ?_))
        | refine W_skip ?_
        | refine W_ret ?_
      )
      | refine seqK_n ?_
      | (refine fnK_r rfl ?_; try dsimp only [gd_z, gd_s]))
    · refine ⟨_, rfl, ?_, rfl⟩
      unfold stepF
      simp only
      rw [if_neg (by omega)]
    · refine ⟨_, rfl, ?_, rfl⟩
      unfold stepF
      simp only
      rw [if_pos (by omega)]
  · rw [if_neg (by decide)]
    have hLast : Len ((G.map Prod.fst).getD ((v.L.length : Int) - 1).toNat lnE.dflt).v (atC G (v.L.length - 1)).length := by
      rw [show ((v.L.length : Int) - 1).toNat = (((v.L.length - 1 : Nat) : Int)).toNat by omega]
      exact (hG.at (i := v.L.length - 1) (by omega)).ln
    have hwL := wid_at hm (Y := v.L.length - 1) (by omega)
    rw [show (((v.L.length - 1 : Nat) : Int)) = (v.L.length : Int) - 1 by omega] at hwL
    have hbL := ok.l.wid (y := (v.L.length : Int) - 1) (by omega) (by omega)
    rw [hwL] at hbL
    by_cases hY0 : Y = 0
    · subst hY0
      refine W_enter d55 ?_
      show W _ (.code m55_code [.sc (.ptr id 0), i64 c1, i64 ((0 : Nat) : Int), i64 (-1), undefA, undefA, undefA, undefA, undefA, undefA, undefA, undefA, undefA, undefA, undefA, undefA, undefA, undefA, undefA, undefA, undefA, undefA, undefA, undefA, undefA, undefA, undefA, undefA, undefA, undefA, undefA, undefA, undefA, undefA, undefA, undefA, undefA, undefA, undefA, undefA, undefA, undefA, undefA, undefA, undefA, undefA, undefA, undefA, undefA, undefA, undefA, undefA, undefA, undefA, undefA, undefA] _) _
      unfold m55_code
      repeat' (first
        | (refine K_ops ?_; first
          | refine W_fastB rfl ?_
          | refine W_nil ?_
          | (refine W_lenL rfl (by first | assumption | exact SlR.ln (by assumption) | exact AccS.ln (by assumption) | exact OwnS.ln (by assumption) | exact VwO.ln (by assumption) | exact OwnP.ln (by assumption) | exact Len.sl) ?_; refine W_norm rfl ?_)
          | (refine K_bin ?_; first
            | (refine W_add rfl rfl (IntWalk.i64_in _ (by first | omega | (simp only [List.length_set, List.length_append, List.length_take, List.length_drop, List.length_replicate, List.length_cons, List.length_nil, decs_length, List.length_map]; omega))) ?_; refine W_norm rfl ?_)
            | (refine W_sub rfl rfl (IntWalk.i64_in _ (by first | omega | (simp only [List.length_set, List.length_append, List.length_take, List.length_drop, List.length_replicate, List.length_cons, List.length_nil, decs_length, List.length_map]; omega))) ?_; refine W_norm rfl ?_)
          )
          | (refine K_index ?_; first
            | (refine W_indexR rfl rfl (by assumption) rfl ⟨(by first | omega | (simp only [List.length_set, List.length_append, List.length_take, List.length_drop, List.length_replicate, List.length_cons, List.length_nil, decs_length, List.length_map]; omega)), (by first | omega | (simp only [List.length_set, List.length_append, List.length_take, List.length_drop, List.length_replicate, List.length_cons, List.length_nil, decs_length, List.length_map]; omega))⟩ ?_; intro _ _ _; refine W_norm rfl ?_)
          )
          | (refine K_load ?_; first
            | (refine W_loadR hs rfl (by assumption) rfl ?_; refine W_norm rfl ?_)
            | (refine W_loadC hs 0 rfl rfl rfl ?_; refine W_norm rfl ?_)
          )
        )
        | (refine K_code ?_; first
          | refine W_seq ?_
          | refine W_ops ?_
          | refine W_cond_t rfl ?_
          | (refine W_cond rfl (fun hc => ?_) (fun hc => ?_) <;> (try rw [hc]) <;> (try simp only [decide_eq_true_eq, decide_eq_false_iff_not, beq_iff_eq, beq_eq_false_iff_ne, bne_iff_ne, bne_eq_false_iff_eq, Bool.not_eq_true', Bool.not_eq_false', Int.not_lt, Int.not_le, ne_eq, reduceCtorEq, not_true_eq_false, not_false_eq_true, Decidable.not_not] at hc) <;> (try (exfalso; omega)) <;> (try refine W_norm rfl ?_))
          | refine W_skip ?_
          | refine W_ret ?_
        )
        | refine seqK_n ?_
        | (refine fnK_r rfl ?_; try dsimp only [gd_z, gd_s]))
      · refine ⟨_, rfl, ?_, rfl⟩
        unfold stepB
        simp only
        rw [if_neg (by omega), if_pos (by omega), hwL]
      · refine ⟨_, rfl, ?_, rfl⟩
        unfold stepB
        simp only
        rw [if_pos (by omega)]; rfl
    · have hPrev : Len ((G.map Prod.fst).getD ((Y : Int) - 1).toNat lnE.dflt).v (atC G (Y - 1)).length := by
        rw [show ((Y : Int) - 1).toNat = (((Y - 1 : Nat) : Int)).toNat by omega]
        exact (hG.at (i := Y - 1) (by omega)).ln
      have hwP := wid_at hm (Y := Y - 1) (by omega)
      rw [show (((Y - 1 : Nat) : Int)) = (Y : Int) - 1 by omega] at hwP
      have hbP := ok.l.wid (y := (Y : Int) - 1) (by omega) (by omega)
      rw [hwP] at hbP
      refine W_enter d55 ?_
      show W _ (.code m55_code [.sc (.ptr id 0), i64 c1, i64 (Y : Int), i64 (-1), undefA, undefA, undefA, undefA, undefA, undefA, undefA, undefA, undefA, undefA, undefA, undefA, undefA, undefA, undefA, undefA, undefA, undefA, undefA, undefA, undefA, undefA, undefA, undefA, undefA, undefA, undefA, undefA, undefA, undefA, undefA, undefA, undefA, undefA, undefA, undefA, undefA, undefA, undefA, undefA, undefA, undefA, undefA, undefA, undefA, undefA, undefA, undefA, undefA, undefA, undefA, undefA] _) _
      unfold m55_code
      repeat' (first
        | (refine K_ops ?_; first
          | refine W_fastB rfl ?_
          | refine W_nil ?_
          | (refine W_lenL rfl (by first | assumption | exact SlR.ln (by assumption) | exact AccS.ln (by assumption) | exact OwnS.ln (by assumption) | exact VwO.ln (by assumption) | exact OwnP.ln (by assumption) | exact Len.sl) ?_; refine W_norm rfl ?_)
          | (refine K_bin ?_; first
            | (refine W_add rfl rfl (IntWalk.i64_in _ (by first | omega | (simp only [List.length_set, List.length_append, List.length_take, List.length_drop, List.length_replicate, List.length_cons, List.length_nil, decs_length, List.length_map]; omega))) ?_; refine W_norm rfl ?_)
            | (refine W_sub rfl rfl (IntWalk.i64_in _ (by first | omega | (simp only [List.length_set, List.length_append, List.length_take, List.length_drop, List.length_replicate, List.length_cons, List.length_nil, decs_length, List.length_map]; omega))) ?_; refine W_norm rfl ?_)
          )
          | (refine K_index ?_; first
            | (refine W_indexR rfl rfl (by assumption) rfl ⟨(by first | omega | (simp only [List.length_set, List.length_append, List.length_take, List.length_drop, List.length_replicate, List.length_cons, List.length_nil, decs_length, List.length_map]; omega)), (by first | omega | (simp only [List.length_set, List.length_append, List.length_take, List.length_drop, List.length_replicate, List.length_cons, List.length_nil, decs_length, List.length_map]; omega))⟩ ?_; intro _ _ _; refine W_norm rfl ?_)
          )
          | (refine K_load ?_; first
            | (refine W_loadR hs rfl (by assumption) rfl ?_; refine W_norm rfl ?_)
            | (refine W_loadC hs 0 rfl rfl rfl ?_; refine W_norm rfl ?_)
          )
        )
        | (refine K_code ?_; first
          | refine W_seq ?_
          | refine W_ops ?_
          | (refine W_cond rfl (fun hc => ?_) (fun hc => ?_) <;> (try rw [hc]) <;> (try simp only [decide_eq_true_eq, decide_eq_false_iff_not, beq_iff_eq, beq_eq_false_iff_ne, bne_iff_ne, bne_eq_false_iff_eq, Bool.not_eq_true', Bool.not_eq_false', Int.not_lt, Int.not_le, ne_eq, reduceCtorEq, not_true_eq_false, not_false_eq_true, Decidable.not_not] at hc) <;> (try (exfalso; omega)) <;> (try refine W_norm rfl ?_))
          | refine W_skip ?_
          | refine W_ret ?_
        )
        | refine seqK_n ?_
        | (refine fnK_r rfl ?_; try dsimp only [gd_z, gd_s]))
      · refine ⟨_, rfl, ?_, rfl⟩
        unfold stepB
        simp only
        rw [if_neg (by omega), if_neg (by omega), hwP]
      · refine ⟨_, rfl, ?_, rfl⟩
        unfold stepB
        simp only
        rw [if_pos (by omega)]; rfl
end Go.Proofs.YtbkhjpclnfljbaaDoor
/- The document's views: does a cell begin a text? -/
set_option linter.unusedSimpArgs false
set_option linter.unusedVariables false
set_option maxHeartbeats 1000000
set_option maxRecDepth 100000
namespace Go.Proofs.YtbkhjpclnfljbaaDoor
open Go Go.Jx

theorem W_runesStr {D : Nat → Option MFunc} {Q : Ex → List AV → Heap → Prop} {e : List AV} {h : Heap} {dst : Option Nat} {r : List MI} {x : Rnd} {v : SV} {c : Int} (hv : SlR (intEl .i32) (Now h) v [c]) (hx : rd e x = .sc v)
    (k : W D (.ops r (put e dst (.sc (.str (utf8 c)))) h) Q) : W D (.ops (⟨dst, .conv .runesStr x, none⟩ :: r) e h) Q := by
  obtain ⟨h1, h2⟩ := Sl.first (intEl .i32).len (intEl .i32).pos hv.sl
  refine W_act rfl (v := .sc (.str (utf8 c))) (h' := h) ?_ k
  show convA .runesStr (rd e x) h = _
  rw [hx]
  have hr : runesOfCells ([c].flatMap (intEl .i32).enc) = some (utf8 c) := by
    simp [runesOfCells, intEl, utf8]
  have h2' : firstA 1 [c].length (.sc v) h = some ([c].flatMap (intEl .i32).enc) := h2
  rcases hv with ⟨h0, _⟩ | ⟨id, off, cap, t, kd, cs, rfl, _⟩
  · cases h0
  · unfold convA
    simp only [h1, h2', hr, Option.map_some]
theorem w44 (c : Int) (h : Heap) : Wc DD 44 [.sc (.int .i32 c)] h fun w h' => w = .sc (.str (utf8 c)) ∧ Sep (Now h) [] h' := by
  have hs := Sep.entry h
  refine W_enter d44 ?_
  show W _ (.code m44_code [.sc (.int .i32 c), undefA, undefA, undefA, undefA, undefA] _) _
  unfold m44_code
  repeat' (first
    | (refine K_ops ?_; first
      | refine W_fastB rfl ?_
      | refine W_nil ?_
      | (refine W_runesStr (AccS.now (by assumption) hs (by simp)) rfl ?_; refine W_norm rfl ?_)
      | (refine K_bslice ?_; first
        | (refine W_buildS1 (intEl .i32) hs rfl rfl ?_; clear hs; intro _ _ _ _ hs; try simp only [cell_back, attr_back, List.set_cons_zero, List.set_cons_succ, List.eraseIdx_cons_succ, List.eraseIdx_zero, List.tail_cons, List.nil_append, List.cons_append] at hs; refine W_norm rfl ?_)
      )
    )
    | (refine K_code ?_; first
      | refine W_seq ?_
      | refine W_ops ?_
      | refine W_ret ?_
    )
    | refine seqK_n ?_
    | (refine fnK_r rfl ?_; try dsimp only [gd_z, gd_s]))
  exact ⟨_, rfl, rfl, hs.none⟩
end Go.Proofs.YtbkhjpclnfljbaaDoor
/- The document's views: where a text begins. -/
set_option linter.unusedSimpArgs false
set_option linter.unusedVariables false
set_option maxHeartbeats 1000000
set_option maxRecDepth 100000
namespace Go.Proofs.YtbkhjpclnfljbaaDoor
open Go Go.Jx

theorem pre_of {t s r : List UInt8} (h : t.length ≤ s.length ∨ r = []) : t.isPrefixOf (s ++ r) = decide (t.length ≤ s.length ∧ s.take t.length = t) := by
  rw [Bool.eq_iff_iff, prefix_take, decide_eq_true_eq]
  rcases h with h | rfl
  · rw [List.length_append, List.take_append_of_le_length h]
    exact ⟨fun k => ⟨h, k.2⟩, fun k => ⟨by omega, k.2⟩⟩
  · rw [List.append_nil]
theorem getD_dropC {C : List Cell} {X j : Nat} : (C.drop X).getD j cell0 = C.getD (X + j) cell0 := by
  rw [List.getD_eq_getElem?_getD, List.getD_eq_getElem?_getD, List.getElem?_drop]
theorem w56 {R : Ro} {M : List Hp} {h : Heap} {id : Nat} {lv : SV} {v : Vw} {G : List LnC} {X Y : Nat} {t : List UInt8} (hs : Sep R (rvO id lv v :: M) h) (hG : LnsR R lv G) (hm : G.map lnOf = v.L) (ok : OkV v) (hY : Y < G.length) (hX : X < (atC G Y).length) (ht : t.length ≤ 32) :
    Wc DD 56 [.sc (.ptr id 0), i64 (X : Int), i64 (Y : Int), .sc (.str t)] h fun w h' => w = bo (begB (atC G Y) t X) ∧ Sep R (rvO id lv v :: M) h' := by
  have hlen : G.length = v.L.length := by rw [← hm, List.length_map]
  have hl : Len lv v.L.length := by have := hG.ln; rwa [hlen] at this
  have ok2 := ok.l.big
  have hln := hG.1
  have hGl : (G.map Prod.fst).length = v.L.length := by rw [List.length_map]; exact hlen
  have hrow := hG.at hY
  have hrl := hrow.ln
  have hw := wid_at hm hY
  have hwl := ok.l.wid (y := (Y : Int)) (by omega) (by omega)
  refine W_enter d56 ?_
  show W _ (.code m56_code [.sc (.ptr id 0), i64 (X : Int), i64 (Y : Int), .sc (.str t), undefA, undefA, undefA, undefA, undefA, undefA, undefA, undefA, undefA, undefA, undefA, undefA, undefA, undefA, undefA, undefA, undefA, undefA, undefA, undefA, undefA, undefA, undefA, undefA, undefA, undefA, undefA, undefA, undefA, undefA, undefA, undefA, undefA, undefA, undefA, undefA, undefA, undefA, undefA, undefA, undefA, undefA, undefA, undefA, undefA, undefA, undefA, undefA, undefA, undefA, undefA, undefA, undefA, undefA, undefA, undefA, undefA, undefA, undefA, undefA, undefA, undefA, undefA] _) _
  unfold m56_code
  repeat' (first
    | (refine K_ops ?_; first
      | refine W_fastB rfl ?_
      | refine W_nil ?_
      | (refine K_index ?_; first
        | (refine W_indexR rfl rfl (by assumption) rfl ⟨(by first | omega | (simp only [List.length_set, List.length_append, List.length_take, List.length_drop, List.length_replicate, List.length_cons, List.length_nil, decs_length, List.length_map]; omega)), (by first | omega | (simp only [List.length_set, List.length_append, List.length_take, List.length_drop, List.length_replicate, List.length_cons, List.length_nil, decs_length, List.length_map]; omega))⟩ ?_; intro _ _ _; refine W_norm rfl ?_)
      )
      | (refine K_load ?_; first
        | (refine W_loadR hs rfl (by assumption) rfl ?_; refine W_norm rfl ?_)
        | (refine W_loadRF hs rfl (by assumption) rfl ?_; refine W_norm rfl ?_)
        | (refine W_loadC hs 0 rfl rfl rfl ?_; refine W_norm rfl ?_)
      )
    )
    | (refine K_code ?_; first
      | refine W_seq ?_
      | refine W_ops ?_
      | (refine W_cond rfl (fun hc => ?_) (fun hc => ?_) <;> (try rw [hc]) <;> (try simp only [decide_eq_true_eq, decide_eq_false_iff_not, beq_iff_eq, beq_eq_false_iff_ne, bne_iff_ne, bne_eq_false_iff_eq, Bool.not_eq_true', Bool.not_eq_false', Int.not_lt, Int.not_le, ne_eq, reduceCtorEq, not_true_eq_false, not_false_eq_true, Decidable.not_not] at hc) <;> (try (exfalso; omega)) <;> (try refine W_norm rfl ?_))
      | refine W_skip ?_
      | refine W_ret ?_
      | refine W_block ?_
    )
    | refine seqK_n ?_
    | refine seqK_r ?_
    | (refine fnK_r rfl ?_; try dsimp only [gd_z, gd_s]))
  · refine ⟨_, rfl, ?_, hs⟩
    unfold begB
    rw [decide_eq_false (by rw [Decidable.not_not]; exact hc)]; rfl
  · have hc0 : ((atC G Y).getD X cell0).w ≠ 2 := hc
    refine W_loopB [10, 11, 27, 28, 29, 30, 31, 32, 33, 34, 35, 36, 37, 38, 39, 40, 41, 42, 43, 44, 45, 46, 47, 48, 49, 50, 51, 52, 53] [0, 1, 2, 3, 4, 5, 6, 7, 8, 9, 10, 11, 12, 13, 14, 15, 16, 17, 18, 19, 20, 21, 22, 23, 24, 25, 26, 27, 28, 29, 30, 31, 32, 33, 34, 35, 36, 37, 38, 39, 40, 41, 42, 43, 44, 45, 46, 47, 48, 49, 50, 51, 52, 53, 54, 55, 56, 57, 58, 59, 60, 61, 62, 63, 64, 65, 66] (fun n' sl h' => ∃ (k : Nat) (s : List UInt8), sl = [(10, .sc (.str s)), (11, .sc (.int .i64 (k : Int)))] ∧ n' = (atC G Y).length - k ∧ X ≤ k ∧ k ≤ (atC G Y).length ∧ s = textB (((atC G Y).drop X).take (k - X)) ∧ Sep R (rvO id lv v :: M) h') ?_ ?_
    · refine ⟨_, _, ⟨X, [], rfl, rfl, Nat.le_refl _, ?_, ?_, hs⟩, EnvB.of rfl⟩
      · omega
      · rw [Nat.sub_self, List.take_zero]; rfl
    clear hs
    rintro _ _ us _ h4 ⟨k, s, rfl, rfl, hXk, hk, hse, hs⟩ he
    refine W_spell he rfl ?_
    clear he
    unfold m56_l6
    have htl : s.length ≤ 4 * (k - X) := by
      have := textB_length (((atC G Y).drop X).take (k - X))
      rw [← hse, List.length_take] at this
      omega
    have hcat : textB ((atC G Y).drop X) = s ++ textB ((((atC G Y).drop X)).drop (k - X)) := by
      rw [hse]
      unfold textB
      rw [← List.flatMap_append, List.take_append_drop]
    have hdl : ((atC G Y).drop X).length = (atC G Y).length - X := List.length_drop
    have hres : (t.length ≤ s.length ∨ k = (atC G Y).length) → begB (atC G Y) t X = decide (t.length ≤ s.length ∧ s.take t.length = t) := by
      intro hh
      unfold begB
      rw [decide_eq_true hc0, Bool.true_and, hcat]
      refine pre_of ?_
      rcases hh with hh | hh
      · exact .inl hh
      · right
        rw [List.drop_of_length_le (by omega)]; rfl
    have hul := utf8_length ((atC G Y).getD (k : Int).toNat cellE.dflt).r
    have hsn : k < (atC G Y).length → textB (((atC G Y).drop X).take (k + 1 - X)) = s ++ (if ((atC G Y).getD (k : Int).toNat cellE.dflt).w = 2 then [] else utf8 ((atC G Y).getD (k : Int).toNat cellE.dflt).r) := by
      intro hlt
      rw [show k + 1 - X = k - X + 1 by omega, textB_take (by omega), ← hse, getD_dropC, Int.toNat_natCast, show X + (k - X) = k by omega]; rfl
    clear hcat hse
    repeat' (first
      | (refine K_ops ?_; first
        | refine W_fastB rfl ?_
        | refine W_nil ?_
        | (refine K_guard ?_; first
          | refine W_guard_on rfl ?_
          | refine W_guard_off rfl rfl (W_norm rfl ?_)
          | (refine W_guardT rfl (fun hc => ?_) (fun hc => ?_) <;> (try rw [hc]) <;> (try simp only [decide_eq_true_eq, decide_eq_false_iff_not, beq_iff_eq, beq_eq_false_iff_ne, bne_iff_ne, bne_eq_false_iff_eq, Bool.not_eq_true', Bool.not_eq_false', Int.not_lt, Int.not_le, ne_eq, reduceCtorEq, not_true_eq_false, not_false_eq_true, Decidable.not_not] at hc) <;> (try (exfalso; omega)) <;> (try refine W_norm rfl ?_))
        )
        | (refine K_call ?_; first
          | (refine W_callsN 44 rfl (w44 _ _) rfl ?_; rintro _ h5 ⟨rfl, t⟩; replace hs := hs.call t; try simp only [cell_back, attr_back, List.set_cons_zero, List.set_cons_succ, List.eraseIdx_cons_succ, List.eraseIdx_zero, List.tail_cons, List.nil_append, List.cons_append] at hs; refine W_norm rfl ?_)
        )
        | (refine W_lenL rfl (by first | assumption | exact SlR.ln (by assumption) | exact AccS.ln (by assumption) | exact OwnS.ln (by assumption) | exact VwO.ln (by assumption) | exact OwnP.ln (by assumption) | exact Len.sl) ?_; refine W_norm rfl ?_)
        | (refine K_bin ?_; first
          | (refine W_add rfl rfl (IntWalk.i64_in _ (by first | omega | (simp only [List.length_set, List.length_append, List.length_take, List.length_drop, List.length_replicate, List.length_cons, List.length_nil, decs_length, List.length_map]; omega))) ?_; refine W_norm rfl ?_)
          | (refine W_cat rfl rfl (by first | omega | (simp only [List.length_set, List.length_append, List.length_take, List.length_drop, List.length_replicate, List.length_cons, List.length_nil, decs_length, List.length_map]; omega)) ?_; refine W_norm rfl ?_)
        )
        | (refine K_pick ?_; first
          | refine W_pick_t rfl rfl (W_norm rfl ?_)
          | refine W_pick_f rfl rfl (W_norm rfl ?_)
        )
        | (refine K_index ?_; first
          | (refine W_indexR rfl rfl (by assumption) rfl ⟨(by first | omega | (simp only [List.length_set, List.length_append, List.length_take, List.length_drop, List.length_replicate, List.length_cons, List.length_nil, decs_length, List.length_map]; omega)), (by first | omega | (simp only [List.length_set, List.length_append, List.length_take, List.length_drop, List.length_replicate, List.length_cons, List.length_nil, decs_length, List.length_map]; omega))⟩ ?_; intro _ _ _; refine W_norm rfl ?_)
        )
        | (refine K_load ?_; first
          | (refine W_loadR hs rfl (by assumption) rfl ?_; refine W_norm rfl ?_)
          | (refine W_loadRF hs rfl (by assumption) rfl ?_; refine W_norm rfl ?_)
        )
        | (refine W_sliceStrTo rfl rfl ⟨(by first | omega | (simp only [List.length_set, List.length_append, List.length_take, List.length_drop, List.length_replicate, List.length_cons, List.length_nil, decs_length, List.length_map]; omega)), (by first | omega | (simp only [List.length_set, List.length_append, List.length_take, List.length_drop, List.length_replicate, List.length_cons, List.length_nil, decs_length, List.length_map]; omega))⟩ ?_; refine W_norm rfl ?_)
      )
      | (refine K_code ?_; first
        | refine W_seq ?_
        | refine W_ops ?_
        | refine W_cond_f rfl ?_
        | (refine W_cond rfl (fun hc => ?_) (fun hc => ?_) <;> (try rw [hc]) <;> (try simp only [decide_eq_true_eq, decide_eq_false_iff_not, beq_iff_eq, beq_eq_false_iff_ne, bne_iff_ne, bne_eq_false_iff_eq, Bool.not_eq_true', Bool.not_eq_false', Int.not_lt, Int.not_le, ne_eq, reduceCtorEq, not_true_eq_false, not_false_eq_true, Decidable.not_not] at hc) <;> (try (exfalso; omega)) <;> (try refine W_norm rfl ?_))
        | refine W_skip ?_
        | refine W_ret ?_
        | refine W_exit ?_
        | refine W_block ?_
      )
      | refine seqK_n ?_
      | refine seqK_x ?_
      | refine blockK_n ?_
      | refine blockK_e ?_
      | refine invK_x ?_
      | refine invK_n ?_
      | (refine fnK_r rfl ?_; try dsimp only [gd_z, gd_s]))
    · rw [if_neg hc] at hsn
      refine ⟨_, ?_, _, ⟨k + 1, _, rfl, rfl, ?_, ?_, (hsn (by omega)).symm, hs⟩, EnvB.of rfl⟩
      · omega
      · omega
      · omega
    · rw [if_pos hc, List.append_nil] at hsn
      refine ⟨_, ?_, _, ⟨k + 1, s, rfl, rfl, ?_, ?_, (hsn (by omega)).symm, hs⟩, EnvB.of rfl⟩
      · omega
      · omega
      · omega
    all_goals
      refine ⟨_, rfl, ?_, hs⟩
      refine congrArg (fun b => AV.sc (SV.bool b)) ?_
      rw [hres (by omega), Bool.eq_iff_iff, decide_eq_true_eq]
      try rw [Int.toNat_natCast, beq_iff_eq]
      first
        | exact ⟨fun hh => ⟨by omega, hh⟩, fun hh => hh.2⟩
        | exact ⟨fun hh => (by cases hh), fun hh => absurd hh.1 (by omega)⟩
theorem w55f {R : Ro} {M : List Hp} {h : Heap} {id : Nat} {lv : SV} {v : Vw} {G : List LnC} {c : Spot} (hs : Sep R (rvO id lv v :: M) h) (hG : LnsR R lv G) (hm : G.map lnOf = v.L) (ok : OkV v) (hc : InV v.L c) :
    Wc DD 55 [.sc (.ptr id 0), i64 c.1, i64 c.2, i64 1] h fun w h' => (w = .tup [i64 (stepF v.L c).1, i64 (stepF v.L c).2]) ∧ h' = h := by
  have := w55 hs hG hm ok hc (.inl rfl)
  rwa [if_pos rfl] at this
theorem w55b {R : Ro} {M : List Hp} {h : Heap} {id : Nat} {lv : SV} {v : Vw} {G : List LnC} {c : Spot} (hs : Sep R (rvO id lv v :: M) h) (hG : LnsR R lv G) (hm : G.map lnOf = v.L) (ok : OkV v) (hc : InV v.L c) :
    Wc DD 55 [.sc (.ptr id 0), i64 c.1, i64 c.2, i64 (-1)] h fun w h' => (w = .tup [i64 (stepB v.L c).1, i64 (stepB v.L c).2]) ∧ h' = h := by
  have := w55 hs hG hm ok hc (.inr rfl)
  rwa [if_neg (by decide)] at this
/-- The document's search. -/
theorem w43 {R : Ro} {M : List Hp} {h : Heap} {id : Nat} {lv : SV} {v : Vw} {G : List LnC} {t : List UInt8} {back : Bool} (hs : Sep R (rvO id lv v :: M) h) (hG : LnsR R lv G) (hm : G.map lnOf = v.L) (ok : OkV v) (ht : t.length ≤ 32) :
    Wc DD 43 [.sc (.ptr id 0), .sc (.str t), bo back] h fun w h' => w = bo (findV v t back).isSome ∧ Sep R (rvO id lv ((findV v t back).getD v) :: M) h' := by
  have hp : InV v.L (v.x, v.y) := ⟨ok.y0, ok.y1, ok.x0, ok.x1⟩
  have hlen : G.length = v.L.length := by rw [← hm, List.length_map]
  have hpick : ∀ p, pickL (spotsL v.L t) (v.x, v.y) back = some p → findV v t back = some (toV v p.1 p.2) := fun p hp => by unfold findV; rw [hp]; rfl
  have hnone : spotsL v.L t = [] → findV v t back = none := fun hp => by unfold findV; rw [pickL_none.2 hp]; rfl
  have hmem : ∀ c, InV v.L c → ∃ X Y : Nat, c = ((X : Int), (Y : Int)) ∧ Y < G.length ∧ X < (atC G Y).length ∧ (c ∈ spotsL v.L t ↔ begB (atC G Y) t X = true) := by
    intro c hc
    have hc' := hc
    obtain ⟨c1, c2, c3, c4⟩ := hc'
    have hY : c.2.toNat < G.length := by omega
    have hw := wid_at hm hY
    refine ⟨c.1.toNat, c.2.toNat, Prod.ext (by simp only; omega) (by simp only; omega), hY, ?_, ?_⟩
    · rw [show ((c.2.toNat : Nat) : Int) = c.2 by omega] at hw
      omega
    · rw [spotsL_iff hc, atL_at hm hY]
  cases back
  · refine W_enter d43 ?_
    show W _ (.code m43_code [.sc (.ptr id 0), .sc (.str t), bo false, undefA, undefA, undefA, undefA, undefA, undefA, undefA, undefA, undefA, undefA, undefA, undefA, undefA, undefA, undefA, undefA, undefA, undefA, undefA, undefA, undefA, undefA, undefA, undefA, undefA, undefA, undefA, undefA, undefA, undefA, undefA, undefA, undefA, undefA, undefA, undefA, undefA, undefA, undefA, undefA, undefA, undefA, undefA, undefA, undefA, undefA, undefA] _) _
    unfold m43_code
    repeat' (first
      | (refine K_ops ?_; first
        | refine W_fastB rfl ?_
        | refine W_nil ?_
        | (refine K_load ?_; first
          | (refine W_loadC hs 0 rfl rfl rfl ?_; refine W_norm rfl ?_)
        )
      )
      | (refine K_code ?_; first
        | refine W_seq ?_
        | refine W_ops ?_
        | refine W_cond_f rfl ?_
        | refine W_skip ?_
        | refine W_block ?_
        | refine W_draw rfl ?_
      )
      | refine seqK_n ?_)
    refine W_loopB [6, 8, 9, 19, 20, 21, 22, 23, 24, 25, 26, 27, 28, 29, 30, 31, 32, 33, 34, 35, 36, 37, 38, 39, 40, 41, 42, 43, 44, 45, 46, 47, 48, 49] [0, 1, 2, 3, 4, 5, 6, 7, 8, 9, 10, 11, 12, 13, 14, 15, 16, 17, 18, 19, 20, 21, 22, 23, 24, 25, 26, 27, 28, 29, 30, 31, 32, 33, 34, 35, 36, 37, 38, 39, 40, 41, 42, 43, 44, 45, 46, 47, 48, 49] (fun n' sl h' => ∃ (c : Spot), sl = [(8, .sc (.int .i64 c.1)), (9, .sc (.int .i64 c.2))] ∧ n' = mF (v.x, v.y) c ∧ FwI v.L (spotsL v.L t) (v.x, v.y) c ∧ Sep R (rvO id lv v :: M) h') ?_ ?_
    · refine ⟨_, _, ⟨(v.x, v.y), rfl, rfl, FwI.start hp, hs⟩, EnvB.of rfl⟩
    clear hs
    rintro _ _ us _ h4 ⟨c, rfl, rfl, hF, hs⟩ he
    refine W_spell he rfl ?_
    clear he
    unfold m43_l5
    obtain ⟨hin, hfound, hgo⟩ := fw_step ok.l hp hF
    obtain ⟨X, Y, e, hYl, hXl, hb⟩ := hmem _ hin
    have w55x := w55f hs hG hm ok hF.1
    rw [e] at w55x hfound hgo hin hb
    rw [hb] at hfound hgo
    simp only at w55x
    obtain ⟨n1, n2, n3, n4⟩ := inV_lt ok.l hin
    simp only at n1 n2 n3 n4
    repeat' (first
      | (refine K_ops ?_; first
        | refine W_fastB rfl ?_
        | refine W_nil ?_
        | (refine K_guard ?_; first
          | refine W_guard_on rfl ?_
          | refine W_guard_off rfl rfl (W_norm rfl ?_)
          | (refine W_guardT rfl (fun hc => ?_) (fun hc => ?_) <;> (try rw [hc]) <;> (try simp only [decide_eq_true_eq, decide_eq_false_iff_not, beq_iff_eq, beq_eq_false_iff_ne, bne_iff_ne, bne_eq_false_iff_eq, Bool.not_eq_true', Bool.not_eq_false', Int.not_lt, Int.not_le, ne_eq, reduceCtorEq, not_true_eq_false, not_false_eq_true, Decidable.not_not] at hc) <;> (try (exfalso; omega)) <;> (try refine W_norm rfl ?_))
        )
        | (refine K_call ?_; first
          | (refine W_callsN 55 rfl (w55x) rfl ?_; rintro _ h5 ⟨rfl, rfl⟩; refine W_norm rfl ?_)
          | (refine W_callsN 56 rfl (w56 hs hG hm ok hYl hXl ht) rfl ?_; rintro _ h5 ⟨rfl, hs⟩; refine W_norm rfl ?_)
          | (refine W_callsN 41 rfl (w41 hs hG hm ok (x := (X : Int)) (y := (Y : Int)) (by omega) (by omega)) rfl ?_; rintro _ h5 ⟨rfl, hs⟩; refine W_norm rfl ?_)
        )
        | (refine K_pick ?_; first
          | refine W_pick_t rfl rfl (W_norm rfl ?_)
          | refine W_pick_f rfl rfl (W_norm rfl ?_)
        )
        | (refine K_load ?_; first
          | (refine W_loadC hs 0 rfl rfl rfl ?_; refine W_norm rfl ?_)
        )
      )
      | (refine K_code ?_; first
        | refine W_seq ?_
        | refine W_ops ?_
        | refine W_cond_f rfl ?_
        | (refine W_cond rfl (fun hc => ?_) (fun hc => ?_) <;> (try rw [hc]) <;> (try simp only [decide_eq_true_eq, decide_eq_false_iff_not, beq_iff_eq, beq_eq_false_iff_ne, bne_iff_ne, bne_eq_false_iff_eq, Bool.not_eq_true', Bool.not_eq_false', Int.not_lt, Int.not_le, ne_eq, reduceCtorEq, not_true_eq_false, not_false_eq_true, Decidable.not_not] at hc) <;> (try (exfalso; omega)) <;> (try refine W_norm rfl ?_))
        | refine W_skip ?_
        | refine W_ret ?_
        | refine W_block ?_
      )
      | refine seqK_n ?_
      | refine seqK_r ?_
      | refine blockK_r ?_
      | refine blockK_n ?_
      | refine invK_r ?_
      | refine invK_n ?_
      | (refine fnK_r rfl ?_; try dsimp only [gd_z, gd_s]))
    · have e2 := hpick ((X : Int), (Y : Int)) (hfound hc)
      rw [e2]
      exact ⟨_, rfl, rfl, hs⟩
    all_goals
      have hbf : begB (atC G Y) t X = false := by assumption
      obtain ⟨g1, g2⟩ := hgo (by rw [hbf]; simp)
      first
        | (have e2 := hnone (g1 (Prod.ext (by simp only; omega) (by simp only; omega)))
           rw [e2]
           exact ⟨_, rfl, rfl, hs⟩)
        | (obtain ⟨g3, g4⟩ := g2 (fun hh => by have q1 := congrArg Prod.fst hh; have q2 := congrArg Prod.snd hh; simp only at q1 q2; omega)
           exact ⟨_, g4, _, ⟨_, rfl, rfl, g3, hs⟩, EnvB.of rfl⟩)
  · refine W_enter d43 ?_
    show W _ (.code m43_code [.sc (.ptr id 0), .sc (.str t), bo true, undefA, undefA, undefA, undefA, undefA, undefA, undefA, undefA, undefA, undefA, undefA, undefA, undefA, undefA, undefA, undefA, undefA, undefA, undefA, undefA, undefA, undefA, undefA, undefA, undefA, undefA, undefA, undefA, undefA, undefA, undefA, undefA, undefA, undefA, undefA, undefA, undefA, undefA, undefA, undefA, undefA, undefA, undefA, undefA, undefA, undefA, undefA] _) _
    unfold m43_code
    repeat' (first
      | (refine K_ops ?_; first
        | refine W_fastB rfl ?_
        | refine W_nil ?_
        | (refine K_load ?_; first
          | (refine W_loadC hs 0 rfl rfl rfl ?_; refine W_norm rfl ?_)
        )
      )
      | (refine K_code ?_; first
        | refine W_seq ?_
        | refine W_ops ?_
        | refine W_cond_t rfl ?_
        | refine W_block ?_
        | refine W_draw rfl ?_
      )
      | refine seqK_n ?_)
    refine W_loopB [6, 8, 9, 19, 20, 21, 22, 23, 24, 25, 26, 27, 28, 29, 30, 31, 32, 33, 34, 35, 36, 37, 38, 39, 40, 41, 42, 43, 44, 45, 46, 47, 48, 49] [0, 1, 2, 3, 4, 5, 6, 7, 8, 9, 10, 11, 12, 13, 14, 15, 16, 17, 18, 19, 20, 21, 22, 23, 24, 25, 26, 27, 28, 29, 30, 31, 32, 33, 34, 35, 36, 37, 38, 39, 40, 41, 42, 43, 44, 45, 46, 47, 48, 49] (fun n' sl h' => ∃ (c : Spot), sl = [(8, .sc (.int .i64 c.1)), (9, .sc (.int .i64 c.2))] ∧ n' = mB (v.x, v.y) c ∧ BwI v.L (spotsL v.L t) (v.x, v.y) c ∧ Sep R (rvO id lv v :: M) h') ?_ ?_
    · refine ⟨_, _, ⟨(v.x, v.y), rfl, rfl, BwI.start hp, hs⟩, EnvB.of rfl⟩
    clear hs
    rintro _ _ us _ h4 ⟨c, rfl, rfl, hF, hs⟩ he
    refine W_spell he rfl ?_
    clear he
    unfold m43_l5
    obtain ⟨hin, hfound, hgo⟩ := bw_step ok.l hp hF
    obtain ⟨X, Y, e, hYl, hXl, hb⟩ := hmem _ hin
    have w55x := w55b hs hG hm ok hF.1
    rw [e] at w55x hfound hgo hin hb
    rw [hb] at hfound hgo
    simp only at w55x
    obtain ⟨n1, n2, n3, n4⟩ := inV_lt ok.l hin
    simp only at n1 n2 n3 n4
    repeat' (first
      | (refine K_ops ?_; first
        | refine W_fastB rfl ?_
        | refine W_nil ?_
        | (refine K_guard ?_; first
          | refine W_guard_on rfl ?_
          | refine W_guard_off rfl rfl (W_norm rfl ?_)
          | (refine W_guardT rfl (fun hc => ?_) (fun hc => ?_) <;> (try rw [hc]) <;> (try simp only [decide_eq_true_eq, decide_eq_false_iff_not, beq_iff_eq, beq_eq_false_iff_ne, bne_iff_ne, bne_eq_false_iff_eq, Bool.not_eq_true', Bool.not_eq_false', Int.not_lt, Int.not_le, ne_eq, reduceCtorEq, not_true_eq_false, not_false_eq_true, Decidable.not_not] at hc) <;> (try (exfalso; omega)) <;> (try refine W_norm rfl ?_))
        )
        | (refine K_call ?_; first
          | (refine W_callsN 55 rfl (w55x) rfl ?_; rintro _ h5 ⟨rfl, rfl⟩; refine W_norm rfl ?_)
          | (refine W_callsN 56 rfl (w56 hs hG hm ok hYl hXl ht) rfl ?_; rintro _ h5 ⟨rfl, hs⟩; refine W_norm rfl ?_)
          | (refine W_callsN 41 rfl (w41 hs hG hm ok (x := (X : Int)) (y := (Y : Int)) (by omega) (by omega)) rfl ?_; rintro _ h5 ⟨rfl, hs⟩; refine W_norm rfl ?_)
        )
        | (refine K_pick ?_; first
          | refine W_pick_t rfl rfl (W_norm rfl ?_)
          | refine W_pick_f rfl rfl (W_norm rfl ?_)
        )
        | (refine K_load ?_; first
          | (refine W_loadC hs 0 rfl rfl rfl ?_; refine W_norm rfl ?_)
        )
      )
      | (refine K_code ?_; first
        | refine W_seq ?_
        | refine W_ops ?_
        | refine W_cond_f rfl ?_
        | (refine W_cond rfl (fun hc => ?_) (fun hc => ?_) <;> (try rw [hc]) <;> (try simp only [decide_eq_true_eq, decide_eq_false_iff_not, beq_iff_eq, beq_eq_false_iff_ne, bne_iff_ne, bne_eq_false_iff_eq, Bool.not_eq_true', Bool.not_eq_false', Int.not_lt, Int.not_le, ne_eq, reduceCtorEq, not_true_eq_false, not_false_eq_true, Decidable.not_not] at hc) <;> (try (exfalso; omega)) <;> (try refine W_norm rfl ?_))
        | refine W_skip ?_
        | refine W_ret ?_
        | refine W_block ?_
      )
      | refine seqK_n ?_
      | refine seqK_r ?_
      | refine blockK_r ?_
      | refine blockK_n ?_
      | refine invK_r ?_
      | refine invK_n ?_
      | (refine fnK_r rfl ?_; try dsimp only [gd_z, gd_s]))
    · have e2 := hpick ((X : Int), (Y : Int)) (hfound hc)
      rw [e2]
      exact ⟨_, rfl, rfl, hs⟩
    all_goals
      have hbf : begB (atC G Y) t X = false := by assumption
      obtain ⟨g1, g2⟩ := hgo (by rw [hbf]; simp)
      first
        | (have e2 := hnone (g1 (Prod.ext (by simp only; omega) (by simp only; omega)))
           rw [e2]
           exact ⟨_, rfl, rfl, hs⟩)
        | (obtain ⟨g3, g4⟩ := g2 (fun hh => by have q1 := congrArg Prod.fst hh; have q2 := congrArg Prod.snd hh; simp only at q1 q2; omega)
           exact ⟨_, g4, _, ⟨_, rfl, rfl, g3, hs⟩, EnvB.of rfl⟩)
end Go.Proofs.YtbkhjpclnfljbaaDoor
/- The document's views: the text of one line's cells. -/
set_option linter.unusedSimpArgs false
set_option linter.unusedVariables false
set_option maxHeartbeats 1000000
set_option maxRecDepth 100000
namespace Go.Proofs.YtbkhjpclnfljbaaDoor
open Go Go.Jx

theorem trimB_cut (s : List UInt8) (c : UInt8) : s.take (trimB s c).length = trimB s c := by
  unfold trimB
  have h1 : s = (s.reverse.dropWhile (· == c)).reverse ++ (s.reverse.takeWhile (· == c)).reverse := by
    rw [← List.reverse_append, List.takeWhile_append_dropWhile, List.reverse_reverse]
  conv => lhs; rw [h1]
  rw [List.take_left' (by rw [← h1])]
/-- How many cells between F and B there are ahead of k. -/
def cntF (F : Nat) (B : Int) (k : Nat) : Nat := (min (k : Int) (B + 1) - F).toNat
theorem cnt_in {F k : Nat} {B : Int} (h1 : F ≤ k) (h2 : (k : Int) ≤ B) : F + cntF F B k = k ∧ cntF F B (k + 1) = cntF F B k + 1 := by unfold cntF; omega
theorem cnt_out {F k : Nat} {B : Int} (h : k < F ∨ B < k) : cntF F B (k + 1) = cntF F B k := by unfold cntF; omega
theorem cnt_zero {F : Nat} {B : Int} : cntF F B 0 = 0 := by unfold cntF; omega
theorem cnt_end {F n : Nat} {B : Int} (h : B < n) : cntF F B n = (B - F + 1).toNat := by unfold cntF; omega
theorem cnt_le {F k : Nat} {B : Int} : cntF F B k ≤ k := by unfold cntF; omega
structure TxI (n : Nat) (P Z : Spot) (Y : Nat) (j s : Bool) (F : Nat) (T B : Int) : Prop where
  f : (F : Int) = if (Y : Int) = P.2 then P.1 else 0
  t : T = if (Y : Int) = Z.2 then Z.1 else (n : Int) - 1
  tn : T < n
  b : B = if T = (n : Int) - 1 ∧ (j = true ∧ s = true) then T - 1 else T
theorem TxI.i1 {n k : Nat} {P Z : Spot} {Y F : Nat} {j s : Bool} {T B : Int} (i : TxI n P Z Y j s F T B) (h : (Y : Int) = P.2) (h2 : (k : Int) < P.1) : cntF F B (k + 1) = cntF F B k := by
  have := i.f; rw [if_pos h] at this
  exact cnt_out (by omega)
theorem TxI.i2 {n k : Nat} {P Z : Spot} {Y F : Nat} {j s : Bool} {T B : Int} (i : TxI n P Z Y j s F T B) (h : (Y : Int) = Z.2) (h2 : Z.1 < (k : Int)) : cntF F B (k + 1) = cntF F B k := by
  have := i.t; rw [if_pos h] at this
  have hb := i.b
  refine cnt_out (.inr ?_)
  split at hb <;> omega
theorem TxI.i3 {n k : Nat} {P Z : Spot} {Y F : Nat} {j s : Bool} {T B : Int} (i : TxI n P Z Y j s F T B) (h : (k : Int) = (n : Int) - 1) (h2 : j = true) (h3 : s = true) : cntF F B (k + 1) = cntF F B k := by
  have hb := i.b
  have := i.tn
  refine cnt_out (.inr ?_)
  by_cases hT : T = (n : Int) - 1
  · rw [if_pos ⟨hT, h2, h3⟩] at hb; omega
  · rw [if_neg (fun hh => hT hh.1)] at hb; omega
theorem TxI.v {n k : Nat} {P Z : Spot} {Y F : Nat} {j s : Bool} {T B : Int} (i : TxI n P Z Y j s F T B) (hk : k < n) (h1 : ¬ (Y : Int) = P.2 ∨ ¬ (k : Int) < P.1) (h2 : ¬ (Y : Int) = Z.2 ∨ ¬ Z.1 < (k : Int)) (h3 : ¬ (k : Int) = (n : Int) - 1 ∨ j = false ∨ s = false) : F ≤ k ∧ (k : Int) ≤ B := by
  have hf := i.f
  have ht := i.t
  have hb := i.b
  have hn := i.tn
  refine ⟨by split at hf <;> omega, ?_⟩
  have hkT : (k : Int) ≤ T := by split at ht <;> omega
  split at hb
  · rename_i hh
    obtain ⟨q1, q2, q3⟩ := hh
    rcases h3 with h3 | h3 | h3
    · omega
    · rw [h3] at q2; cases q2
    · rw [h3] at q3; cases q3
  · omega
abbrev kd28 : MCode := (.block 3 (.seq (.seq (.ops m28_r17) (.cond (.t 105) (.exit 3) .skip)) (.seq (.seq (.ops m28_r18) (.cond (.t 115) (.seq (.ops m28_r19) (.seq (.ops m28_r20) (.cond (.t 131) (.ops m28_r21) .skip))) .skip)) (.ops m28_r22))))
theorem w28_cell {R : Ro} {M : List Hp} {h : Heap} {e : List AV} {b9 : Nat} {g : LnH} {C : List Cell} {P Z : Spot} {Y F k : Nat} {T B : Int} {f : Bool} (he : EnvIs 174 [(3, i64 P.1), (4, i64 P.2), (5, i64 Z.1), (6, i64 Z.2), (8, i64 (Y : Int)), (9, .sc (.ptr b9 0)), (10, .sc (.str (segB C F (cntF F B k)))), (11, i64 ((trimB (segB C F (cntF F B k)) 32).length : Int)), (12, .sc (.bool f)), (13, i64 (k : Int))] e) (hs : Sep R ([(b9, .cells 90 .own (lnE.enc g))] :: M) h) (hC : SlR cellE R g.v C) (ix : TxI C.length P Z Y g.j g.s F T B) (hk : k < C.length) (hl : C.length ≤ 1000) (hf : f = decide (cntF F B k = 0)) :
    W DD (.code (kd28) e h) (fun x e' h' => x = .normal ∧ ∃ sl, (∃ (f' : Bool), sl = [(10, .sc (.str (segB C F (cntF F B (k + 1))))), (11, i64 ((trimB (segB C F (cntF F B (k + 1))) 32).length : Int)), (12, .sc (.bool f'))] ∧ f' = decide (cntF F B (k + 1) = 0) ∧ Sep R ([(b9, .cells 90 .own (lnE.enc g))] :: M) h') ∧ EnvB e [10, 11, 12, 72, 73, 74, 75, 76, 77, 78, 79, 80, 81, 82, 83, 84, 85, 86, 87, 88, 89, 90, 91, 92, 93, 94, 95, 96, 97, 98, 99, 100, 101, 102, 103, 104, 105, 106, 107, 108, 109, 110, 111, 112, 113, 114, 115, 116, 117, 118, 119, 120, 121, 122, 123, 124, 125, 126, 127, 128, 129, 130, 131, 132, 133] [0, 1, 2, 3, 4, 5, 6, 7, 8, 9, 10, 11, 12, 13, 14, 15, 16, 17, 18, 19, 20, 21, 22, 23, 24, 25, 26, 27, 28, 29, 30, 31, 32, 33, 34, 35, 36, 37, 38, 39, 40, 41, 42, 43, 44, 45, 46, 47, 48, 49, 50, 51, 52, 53, 54, 55, 56, 57, 58, 59, 60, 61, 62, 63, 64, 65, 66, 67, 68, 69, 70, 71, 72, 73, 74, 75, 76, 77, 78, 79, 80, 81, 82, 83, 84, 85, 86, 87, 88, 89, 90, 91, 92, 93, 94, 95, 96, 97, 98, 99, 100, 101, 102, 103, 104, 105, 106, 107, 108, 109, 110, 111, 112, 113, 114, 115, 116, 117, 118, 119, 120, 121, 122, 123, 124, 125, 126, 127, 128, 129, 130, 131, 132, 133, 134, 135, 136, 137, 138, 139, 140, 141, 142, 143, 144, 145, 146, 147, 148, 149, 150, 151, 152, 153, 154, 155, 156, 157, 158, 159, 160, 161, 162, 163, 164, 165, 166, 167, 168, 169, 170, 171, 172, 173] sl e') := by
  have hln := hC.ln
  obtain ⟨s, hse⟩ : ∃ s, s = segB C F (cntF F B k) := ⟨_, rfl⟩
  obtain ⟨q, hq⟩ : ∃ q, q = (trimB (segB C F (cntF F B k)) 32).length := ⟨_, rfl⟩
  have hq0 := hq
  rw [← hse] at hq
  have hsl := segB_length C F (cntF F B k)
  have hcl := cnt_le (F := F) (B := B) (k := k)
  rw [← hse] at hsl
  have hout : cntF F B (k + 1) = cntF F B k → segB C F (cntF F B (k + 1)) = s ∧ (trimB (segB C F (cntF F B (k + 1))) 32).length = q ∧ f = decide (cntF F B (k + 1) = 0) := fun hh => by rw [hh, ← hse, ← hq]; exact ⟨rfl, rfl, hf⟩
  have hin : F ≤ k → (k : Int) ≤ B → segB C F (cntF F B (k + 1)) = s ++ (if (C.getD k cell0).w ≠ 2 ∨ f = true then utf8 (C.getD k cell0).r else []) ∧ false = decide (cntF F B (k + 1) = 0) := fun h1 h2 => by
    obtain ⟨e1, e2⟩ := cnt_in h1 h2
    rw [e2, segB_succ, e1, ← hse, hf]
    exact ⟨by simp only [decide_eq_true_eq], by simp⟩
  rw [← hse, ← hq] at he
  obtain ⟨us, rfl⟩ := he.list
  rw [show mkE us [(3, i64 P.1), (4, i64 P.2), (5, i64 Z.1), (6, i64 Z.2), (8, i64 (Y : Int)), (9, .sc (.ptr b9 0)), (10, .sc (.str s)), (11, i64 (q : Int)), (12, .sc (.bool f)), (13, i64 (k : Int))] 0 174 = [us 0, us 1, us 2, i64 P.1, i64 P.2, i64 Z.1, i64 Z.2, us 7, i64 (Y : Int), .sc (.ptr b9 0), .sc (.str s), i64 (q : Int), .sc (.bool f), i64 (k : Int), us 14, us 15, us 16, us 17, us 18, us 19, us 20, us 21, us 22, us 23, us 24, us 25, us 26, us 27, us 28, us 29, us 30, us 31, us 32, us 33, us 34, us 35, us 36, us 37, us 38, us 39, us 40, us 41, us 42, us 43, us 44, us 45, us 46, us 47, us 48, us 49, us 50, us 51, us 52, us 53, us 54, us 55, us 56, us 57, us 58, us 59, us 60, us 61, us 62, us 63, us 64, us 65, us 66, us 67, us 68, us 69, us 70, us 71, us 72, us 73, us 74, us 75, us 76, us 77, us 78, us 79, us 80, us 81, us 82, us 83, us 84, us 85, us 86, us 87, us 88, us 89, us 90, us 91, us 92, us 93, us 94, us 95, us 96, us 97, us 98, us 99, us 100, us 101, us 102, us 103, us 104, us 105, us 106, us 107, us 108, us 109, us 110, us 111, us 112, us 113, us 114, us 115, us 116, us 117, us 118, us 119, us 120, us 121, us 122, us 123, us 124, us 125, us 126, us 127, us 128, us 129, us 130, us 131, us 132, us 133, us 134, us 135, us 136, us 137, us 138, us 139, us 140, us 141, us 142, us 143, us 144, us 145, us 146, us 147, us 148, us 149, us 150, us 151, us 152, us 153, us 154, us 155, us 156, us 157, us 158, us 159, us 160, us 161, us 162, us 163, us 164, us 165, us 166, us 167, us 168, us 169, us 170, us 171, us 172, us 173] from rfl]
  have hsl2 : s.length ≤ 4000 := by omega
  clear hq0 hcl hsl
  unfold kd28
  obtain ⟨S, hS⟩ : ∃ S, S = segB C F (cntF F B (k + 1)) := ⟨_, rfl⟩
  rw [← hS] at hin hout ⊢
  repeat' (first
    | (refine K_ops ?_; first
      | refine W_fastB rfl ?_
      | refine W_nil ?_
      | (refine K_guard ?_; first
        | refine W_guard_on rfl ?_
        | refine W_guard_off rfl rfl (W_norm rfl ?_)
        | refine W_guard_u rfl (W_norm rfl ?_)
        | (refine W_guardT rfl (fun hc => ?_) (fun hc => ?_) <;> (try rw [hc]) <;> (try simp only [decide_eq_true_eq, decide_eq_false_iff_not, beq_iff_eq, beq_eq_false_iff_ne, bne_iff_ne, bne_eq_false_iff_eq, Bool.not_eq_true', Bool.not_eq_false', Int.not_lt, Int.not_le, ne_eq, reduceCtorEq, not_true_eq_false, not_false_eq_true, Decidable.not_not] at hc) <;> (try (exfalso; omega)) <;> (try refine W_norm rfl ?_))
        | (refine W_guardF rfl (fun hc => ?_) (fun hc => ?_) <;> (try rw [hc]) <;> (try simp only [decide_eq_true_eq, decide_eq_false_iff_not, beq_iff_eq, beq_eq_false_iff_ne, bne_iff_ne, bne_eq_false_iff_eq, Bool.not_eq_true', Bool.not_eq_false', Int.not_lt, Int.not_le, ne_eq, reduceCtorEq, not_true_eq_false, not_false_eq_true, Decidable.not_not] at hc) <;> (try (exfalso; omega)) <;> (try refine W_norm rfl ?_))
      )
      | (refine W_lenL rfl (by first | assumption | exact SlR.ln (by assumption) | exact AccS.ln (by assumption) | exact OwnS.ln (by assumption) | exact VwO.ln (by assumption) | exact OwnP.ln (by assumption) | exact Len.sl) ?_; refine W_norm rfl ?_)
      | (refine K_bin ?_; first
        | (refine W_sub rfl rfl (IntWalk.i64_in _ (by first | omega | (simp only [List.length_set, List.length_append, List.length_take, List.length_drop, List.length_replicate, List.length_cons, List.length_nil, decs_length, List.length_map]; omega))) ?_; refine W_norm rfl ?_)
      )
      | (refine K_pick ?_; first
        | refine W_pick_t rfl rfl (W_norm rfl ?_)
        | refine W_pick_f rfl rfl (W_norm rfl ?_)
      )
      | (refine K_load ?_; first
        | (refine W_loadC hs 0 rfl rfl rfl ?_; refine W_norm rfl ?_)
      )
    )
    | (refine K_code ?_; first
      | (refine W_midB (a := .seq (.ops m28_r17) _) [72, 73, 74, 75, 76, 77, 78, 79, 80, 81, 82, 83, 84, 85, 86, 87, 88, 89, 90, 91, 92, 93, 94, 95, 96, 97, 98, 99, 100, 101, 102, 103, 104, 105] [0, 1, 2, 3, 4, 5, 6, 7, 8, 9, 10, 11, 12, 13, 14, 15, 16, 17, 18, 19, 20, 21, 22, 23, 24, 25, 26, 27, 28, 29, 30, 31, 32, 33, 34, 35, 36, 37, 38, 39, 40, 41, 42, 43, 44, 45, 46, 47, 48, 49, 50, 51, 52, 53, 54, 55, 56, 57, 58, 59, 60, 61, 62, 63, 64, 65, 66, 67, 68, 69, 70, 71, 72, 73, 74, 75, 76, 77, 78, 79, 80, 81, 82, 83, 84, 85, 86, 87, 88, 89, 90, 91, 92, 93, 94, 95, 96, 97, 98, 99, 100, 101, 102, 103, 104, 105, 106, 107, 108, 109, 110, 111, 112, 113, 114, 115, 116, 117, 118, 119, 120, 121, 122, 123, 124, 125, 126, 127, 128, 129, 130, 131, 132, 133, 134, 135, 136, 137, 138, 139, 140, 141, 142, 143, 144, 145, 146, 147, 148, 149, 150, 151, 152, 153, 154, 155, 156, 157, 158, 159, 160, 161, 162, 163, 164, 165, 166, 167, 168, 169, 170, 171, 172, 173] (fun sl h' => sl = [] ∧ (F ≤ k ∧ (k : Int) ≤ B) ∧ Sep R ([(b9, .cells 90 .own (lnE.enc g))] :: M) h') ?_ ?_)
      | refine W_seq ?_
      | refine W_ops ?_
      | refine W_cond_t rfl ?_
      | refine W_cond_f rfl ?_
      | (refine W_cond rfl (fun hc => ?_) (fun hc => ?_) <;> (try rw [hc]) <;> (try simp only [decide_eq_true_eq, decide_eq_false_iff_not, beq_iff_eq, beq_eq_false_iff_ne, bne_iff_ne, bne_eq_false_iff_eq, Bool.not_eq_true', Bool.not_eq_false', Int.not_lt, Int.not_le, ne_eq, reduceCtorEq, not_true_eq_false, not_false_eq_true, Decidable.not_not] at hc) <;> (try (exfalso; omega)) <;> (try refine W_norm rfl ?_))
      | refine W_skip ?_
      | refine W_exit ?_
      | refine W_block ?_
    )
    | refine seqK_n ?_
    | refine seqK_x ?_
    | refine blockK_e ?_
    | refine midK_n ?_
    | refine midK_x ?_)
  all_goals first
    | exact ⟨_, ⟨rfl, ix.v hk (by omega) (by omega) (by first | (left; omega) | (right; left; assumption) | (right; right; assumption)), hs⟩, EnvB.of rfl⟩
    | (have h1 : cntF F B (k + 1) = cntF F B k := by
         first
           | exact ix.i1 (by omega) (by omega)
           | exact ix.i2 (by omega) (by omega)
           | exact ix.i3 (by omega) (by assumption) (by assumption)
       obtain ⟨e1, e2, e3⟩ := hout h1
       rw [e2, e1]
       exact ⟨rfl, _, ⟨_, rfl, e3, hs⟩, EnvB.of rfl⟩)
    | skip
  clear hs hout
  rintro _ us2 _ h2 ⟨rfl, ⟨v1, v2⟩, hs⟩ he
  refine W_spell he rfl ?_
  clear he
  obtain ⟨e1, e2⟩ := hin v1 v2
  clear hin
  have hul := utf8_length (C.getD (k : Int).toNat cellE.dflt).r
  have e1' : S = s ++ (if (C.getD (k : Int).toNat cellE.dflt).w ≠ 2 ∨ f = true then utf8 (C.getD (k : Int).toNat cellE.dflt).r else []) := by rw [Int.toNat_natCast]; exact e1
  have e3 : (C.getD (k : Int).toNat cellE.dflt).r = 32 → (trimB (s ++ utf8 (C.getD (k : Int).toNat cellE.dflt).r) 32).length = q := fun hh => by rw [trimB_utf8, if_pos hh, hq]
  have e4 : (C.getD (k : Int).toNat cellE.dflt).r ≠ 32 → (trimB (s ++ utf8 (C.getD (k : Int).toNat cellE.dflt).r) 32).length = (s ++ utf8 (C.getD (k : Int).toNat cellE.dflt).r).length := fun hh => by rw [trimB_utf8, if_neg hh]
  clear e1
  repeat' (first
    | (refine K_ops ?_; first
      | refine W_fastB rfl ?_
      | refine W_nil ?_
      | (refine K_guard ?_; first
        | refine W_guard_on rfl ?_
        | refine W_guard_off rfl rfl (W_norm rfl ?_)
        | (refine W_guardF rfl (fun hc => ?_) (fun hc => ?_) <;> (try rw [hc]) <;> (try simp only [decide_eq_true_eq, decide_eq_false_iff_not, beq_iff_eq, beq_eq_false_iff_ne, bne_iff_ne, bne_eq_false_iff_eq, Bool.not_eq_true', Bool.not_eq_false', Int.not_lt, Int.not_le, ne_eq, reduceCtorEq, not_true_eq_false, not_false_eq_true, Decidable.not_not] at hc) <;> (try (exfalso; omega)) <;> (try refine W_norm rfl ?_))
      )
      | (refine K_call ?_; first
        | (refine W_callsN 44 rfl (w44 _ _) rfl ?_; rintro _ h5 ⟨rfl, t⟩; replace hs := hs.call t; try simp only [cell_back, attr_back, List.set_cons_zero, List.set_cons_succ, List.eraseIdx_cons_succ, List.eraseIdx_zero, List.tail_cons, List.nil_append, List.cons_append] at hs; refine W_norm rfl ?_)
      )
      | (refine K_bin ?_; first
        | (refine W_cat rfl rfl (by first | omega | (simp only [List.length_set, List.length_append, List.length_take, List.length_drop, List.length_replicate, List.length_cons, List.length_nil, decs_length, List.length_map]; omega)) ?_; refine W_norm rfl ?_)
      )
      | (refine K_pick ?_; first
        | refine W_pick_t rfl rfl (W_norm rfl ?_)
        | refine W_pick_f rfl rfl (W_norm rfl ?_)
      )
      | (refine K_index ?_; first
        | (refine W_indexR rfl rfl (by assumption) rfl ⟨(by first | omega | (simp only [List.length_set, List.length_append, List.length_take, List.length_drop, List.length_replicate, List.length_cons, List.length_nil, decs_length, List.length_map]; omega)), (by first | omega | (simp only [List.length_set, List.length_append, List.length_take, List.length_drop, List.length_replicate, List.length_cons, List.length_nil, decs_length, List.length_map]; omega))⟩ ?_; intro _ _ _; refine W_norm rfl ?_)
      )
      | (refine K_load ?_; first
        | (refine W_loadR hs rfl (by assumption) rfl ?_; refine W_norm rfl ?_)
        | (refine W_loadRF hs rfl (by assumption) rfl ?_; refine W_norm rfl ?_)
        | (refine W_loadC hs 0 rfl rfl rfl ?_; refine W_norm rfl ?_)
      )
    )
    | (refine K_code ?_; first
      | refine W_seq ?_
      | refine W_ops ?_
      | refine W_cond_t rfl ?_
      | (refine W_cond rfl (fun hc => ?_) (fun hc => ?_) <;> (try rw [hc]) <;> (try simp only [decide_eq_true_eq, decide_eq_false_iff_not, beq_iff_eq, beq_eq_false_iff_ne, bne_iff_ne, bne_eq_false_iff_eq, Bool.not_eq_true', Bool.not_eq_false', Int.not_lt, Int.not_le, ne_eq, reduceCtorEq, not_true_eq_false, not_false_eq_true, Decidable.not_not] at hc) <;> (try (exfalso; omega)) <;> (try refine W_norm rfl ?_))
      | refine W_skip ?_
    )
    | refine seqK_n ?_
    | refine blockK_n ?_)
  all_goals first
    | (rw [if_pos (by first | (right; assumption) | (left; assumption))] at e1'
       subst e1'
       first
         | (rw [e3 (by assumption)]; exact ⟨rfl, _, ⟨_, rfl, e2, hs⟩, EnvB.of rfl⟩)
         | (rw [e4 (by assumption)]; exact ⟨rfl, _, ⟨_, rfl, e2, hs⟩, EnvB.of rfl⟩))
    | (rw [if_neg (by rintro (hh | hh); exact hh (by assumption); simp_all), List.append_nil] at e1'
       subst e1'
       rw [← hq]
       exact ⟨rfl, _, ⟨_, rfl, e2, hs⟩, EnvB.of rfl⟩)
    | skip
end Go.Proofs.YtbkhjpclnfljbaaDoor
/- The document's views: the text of one line. -/
set_option linter.unusedSimpArgs false
set_option linter.unusedVariables false
set_option maxHeartbeats 1000000
set_option maxRecDepth 100000
namespace Go.Proofs.YtbkhjpclnfljbaaDoor
open Go Go.Jx

abbrev ln28 : MCode := (.seq (.ops m28_r14) (.block 2 (.loop m28_l15)))
theorem w28_line {R : Ro} {M : List Hp} {h : Heap} {e : List AV} {b9 : Nat} {g : LnH} {C : List Cell} {P Z : Spot} {Y F : Nat} {T B : Int} (he : EnvIs 174 [(3, i64 P.1), (4, i64 P.2), (5, i64 Z.1), (6, i64 Z.2), (8, i64 (Y : Int)), (9, .sc (.ptr b9 0)), (10, .sc (.str [])), (11, i64 0), (12, .sc (.bool true))] e) (hs : Sep R ([(b9, .cells 90 .own (lnE.enc g))] :: M) h) (hC : SlR cellE R g.v C) (ix : TxI C.length P Z Y g.j g.s F T B) (hB : B < C.length) (hl : C.length ≤ 1000) :
    W DD (.code (ln28) e h) (fun x e' h' => x = .normal ∧ ∃ sl, (sl = [(10, .sc (.str (segB C F (B - F + 1).toNat))), (11, i64 ((trimB (segB C F (B - F + 1).toNat) 32).length : Int))] ∧ Sep R ([(b9, .cells 90 .own (lnE.enc g))] :: M) h') ∧ EnvB e [10, 11, 12, 13, 65, 66, 67, 68, 69, 70, 71, 72, 73, 74, 75, 76, 77, 78, 79, 80, 81, 82, 83, 84, 85, 86, 87, 88, 89, 90, 91, 92, 93, 94, 95, 96, 97, 98, 99, 100, 101, 102, 103, 104, 105, 106, 107, 108, 109, 110, 111, 112, 113, 114, 115, 116, 117, 118, 119, 120, 121, 122, 123, 124, 125, 126, 127, 128, 129, 130, 131, 132, 133] [0, 1, 2, 3, 4, 5, 6, 7, 8, 9, 10, 11, 12, 13, 14, 15, 16, 17, 18, 19, 20, 21, 22, 23, 24, 25, 26, 27, 28, 29, 30, 31, 32, 33, 34, 35, 36, 37, 38, 39, 40, 41, 42, 43, 44, 45, 46, 47, 48, 49, 50, 51, 52, 53, 54, 55, 56, 57, 58, 59, 60, 61, 62, 63, 64, 65, 66, 67, 68, 69, 70, 71, 72, 73, 74, 75, 76, 77, 78, 79, 80, 81, 82, 83, 84, 85, 86, 87, 88, 89, 90, 91, 92, 93, 94, 95, 96, 97, 98, 99, 100, 101, 102, 103, 104, 105, 106, 107, 108, 109, 110, 111, 112, 113, 114, 115, 116, 117, 118, 119, 120, 121, 122, 123, 124, 125, 126, 127, 128, 129, 130, 131, 132, 133, 134, 135, 136, 137, 138, 139, 140, 141, 142, 143, 144, 145, 146, 147, 148, 149, 150, 151, 152, 153, 154, 155, 156, 157, 158, 159, 160, 161, 162, 163, 164, 165, 166, 167, 168, 169, 170, 171, 172, 173] sl e') := by
  have hln := hC.ln
  obtain ⟨S, hS⟩ : ∃ S, S = segB C F (B - F + 1).toNat := ⟨_, rfl⟩
  rw [← hS]
  obtain ⟨us, rfl⟩ := he.list
  rw [show mkE us [(3, i64 P.1), (4, i64 P.2), (5, i64 Z.1), (6, i64 Z.2), (8, i64 (Y : Int)), (9, .sc (.ptr b9 0)), (10, .sc (.str [])), (11, i64 0), (12, .sc (.bool true))] 0 174 = [us 0, us 1, us 2, i64 P.1, i64 P.2, i64 Z.1, i64 Z.2, us 7, i64 (Y : Int), .sc (.ptr b9 0), .sc (.str []), i64 0, .sc (.bool true), us 13, us 14, us 15, us 16, us 17, us 18, us 19, us 20, us 21, us 22, us 23, us 24, us 25, us 26, us 27, us 28, us 29, us 30, us 31, us 32, us 33, us 34, us 35, us 36, us 37, us 38, us 39, us 40, us 41, us 42, us 43, us 44, us 45, us 46, us 47, us 48, us 49, us 50, us 51, us 52, us 53, us 54, us 55, us 56, us 57, us 58, us 59, us 60, us 61, us 62, us 63, us 64, us 65, us 66, us 67, us 68, us 69, us 70, us 71, us 72, us 73, us 74, us 75, us 76, us 77, us 78, us 79, us 80, us 81, us 82, us 83, us 84, us 85, us 86, us 87, us 88, us 89, us 90, us 91, us 92, us 93, us 94, us 95, us 96, us 97, us 98, us 99, us 100, us 101, us 102, us 103, us 104, us 105, us 106, us 107, us 108, us 109, us 110, us 111, us 112, us 113, us 114, us 115, us 116, us 117, us 118, us 119, us 120, us 121, us 122, us 123, us 124, us 125, us 126, us 127, us 128, us 129, us 130, us 131, us 132, us 133, us 134, us 135, us 136, us 137, us 138, us 139, us 140, us 141, us 142, us 143, us 144, us 145, us 146, us 147, us 148, us 149, us 150, us 151, us 152, us 153, us 154, us 155, us 156, us 157, us 158, us 159, us 160, us 161, us 162, us 163, us 164, us 165, us 166, us 167, us 168, us 169, us 170, us 171, us 172, us 173] from rfl]
  unfold ln28
  repeat' (first
    | (refine K_ops ?_; first
      | refine W_fastB rfl ?_
      | refine W_nil ?_
    )
    | (refine K_code ?_; first
      | refine W_seq ?_
      | refine W_ops ?_
      | refine W_block ?_
    )
    | refine seqK_n ?_)
  refine W_loopB [10, 11, 12, 13, 65, 66, 67, 68, 69, 70, 71, 72, 73, 74, 75, 76, 77, 78, 79, 80, 81, 82, 83, 84, 85, 86, 87, 88, 89, 90, 91, 92, 93, 94, 95, 96, 97, 98, 99, 100, 101, 102, 103, 104, 105, 106, 107, 108, 109, 110, 111, 112, 113, 114, 115, 116, 117, 118, 119, 120, 121, 122, 123, 124, 125, 126, 127, 128, 129, 130, 131, 132, 133] [0, 1, 2, 3, 4, 5, 6, 7, 8, 9, 10, 11, 12, 13, 14, 15, 16, 17, 18, 19, 20, 21, 22, 23, 24, 25, 26, 27, 28, 29, 30, 31, 32, 33, 34, 35, 36, 37, 38, 39, 40, 41, 42, 43, 44, 45, 46, 47, 48, 49, 50, 51, 52, 53, 54, 55, 56, 57, 58, 59, 60, 61, 62, 63, 64, 65, 66, 67, 68, 69, 70, 71, 72, 73, 74, 75, 76, 77, 78, 79, 80, 81, 82, 83, 84, 85, 86, 87, 88, 89, 90, 91, 92, 93, 94, 95, 96, 97, 98, 99, 100, 101, 102, 103, 104, 105, 106, 107, 108, 109, 110, 111, 112, 113, 114, 115, 116, 117, 118, 119, 120, 121, 122, 123, 124, 125, 126, 127, 128, 129, 130, 131, 132, 133, 134, 135, 136, 137, 138, 139, 140, 141, 142, 143, 144, 145, 146, 147, 148, 149, 150, 151, 152, 153, 154, 155, 156, 157, 158, 159, 160, 161, 162, 163, 164, 165, 166, 167, 168, 169, 170, 171, 172, 173] (fun n' sl h' => ∃ (k : Nat) (f : Bool), sl = [(10, .sc (.str (segB C F (cntF F B k)))), (11, i64 ((trimB (segB C F (cntF F B k)) 32).length : Int)), (12, .sc (.bool f)), (13, .sc (.int .i64 (k : Int)))] ∧ n' = C.length - k ∧ k ≤ C.length ∧ f = decide (cntF F B k = 0) ∧ Sep R ([(b9, .cells 90 .own (lnE.enc g))] :: M) h') ?_ ?_
  · have e10 : segB C F (cntF F B 0) = [] := by rw [cnt_zero]; rfl
    have e11 : ((trimB (segB C F (cntF F B 0)) 32).length : Int) = 0 := by rw [e10]; rfl
    refine ⟨_, _, ⟨0, true, rfl, rfl, Nat.zero_le _, by rw [cnt_zero]; rfl, hs⟩, ?_⟩
    rw [e11, e10]
    exact EnvB.of rfl
  clear hs
  rintro _ _ us2 _ h4 ⟨k, f, rfl, rfl, hk, hf, hs⟩ he
  refine W_spell he rfl ?_
  clear he
  unfold m28_l15
  by_cases hlt : k < C.length
  · repeat' (first
      | (refine K_ops ?_; first
        | refine W_fastB rfl ?_
        | refine W_nil ?_
        | (refine W_lenL rfl (by first | assumption | exact SlR.ln (by assumption) | exact AccS.ln (by assumption) | exact OwnS.ln (by assumption) | exact VwO.ln (by assumption) | exact OwnP.ln (by assumption) | exact Len.sl) ?_; refine W_norm rfl ?_)
        | (refine K_load ?_; first
          | (refine W_loadC hs 0 rfl rfl rfl ?_; refine W_norm rfl ?_)
        )
      )
      | (refine K_code ?_; first
        | ((refine W_seq ?_; refine (w28_cell (k := k) (f := f) ⟨rfl, rfl, rfl, rfl, rfl, rfl, rfl, rfl, rfl, rfl, rfl, trivial⟩ hs hC ix hlt hl hf).mono ?_))
        | refine W_seq ?_
        | refine W_ops ?_
        | (refine W_cond rfl (fun hc => ?_) (fun hc => ?_) <;> (try rw [hc]) <;> (try simp only [decide_eq_true_eq, decide_eq_false_iff_not, beq_iff_eq, beq_eq_false_iff_ne, bne_iff_ne, bne_eq_false_iff_eq, Bool.not_eq_true', Bool.not_eq_false', Int.not_lt, Int.not_le, ne_eq, reduceCtorEq, not_true_eq_false, not_false_eq_true, Decidable.not_not] at hc) <;> (try (exfalso; omega)) <;> (try refine W_norm rfl ?_))
        | refine W_skip ?_
      )
      | refine seqK_n ?_)
    clear hs hf
    rintro _ _ h4 ⟨rfl, _, ⟨f', rfl, hf, hs⟩, us3, he⟩
    refine seqK_n ?_
    refine W_spell he rfl ?_
    clear he
    repeat' (first
      | (refine K_ops ?_; first
        | refine W_fastB rfl ?_
        | refine W_nil ?_
        | (refine K_bin ?_; first
          | (refine W_add rfl rfl (IntWalk.i64_in _ (by first | omega | (simp only [List.length_set, List.length_append, List.length_take, List.length_drop, List.length_replicate, List.length_cons, List.length_nil, decs_length, List.length_map]; omega))) ?_; refine W_norm rfl ?_)
        )
      )
      | (refine K_code ?_; first
        | refine W_ops ?_
      )
      | refine invK_n ?_)
    refine ⟨_, ?_, _, ⟨k + 1, f', rfl, rfl, ?_, hf, hs⟩, EnvB.of rfl⟩ <;> omega
  · obtain rfl : k = C.length := by omega
    rw [cnt_end (F := F) hB, ← hS]
    repeat' (first
      | (refine K_ops ?_; first
        | refine W_fastB rfl ?_
        | refine W_nil ?_
        | (refine W_lenL rfl (by first | assumption | exact SlR.ln (by assumption) | exact AccS.ln (by assumption) | exact OwnS.ln (by assumption) | exact VwO.ln (by assumption) | exact OwnP.ln (by assumption) | exact Len.sl) ?_; refine W_norm rfl ?_)
        | (refine K_load ?_; first
          | (refine W_loadC hs 0 rfl rfl rfl ?_; refine W_norm rfl ?_)
        )
      )
      | (refine K_code ?_; first
        | refine W_seq ?_
        | refine W_ops ?_
        | (refine W_cond rfl (fun hc => ?_) (fun hc => ?_) <;> (try rw [hc]) <;> (try simp only [decide_eq_true_eq, decide_eq_false_iff_not, beq_iff_eq, beq_eq_false_iff_ne, bne_iff_ne, bne_eq_false_iff_eq, Bool.not_eq_true', Bool.not_eq_false', Int.not_lt, Int.not_le, ne_eq, reduceCtorEq, not_true_eq_false, not_false_eq_true, Decidable.not_not] at hc) <;> (try (exfalso; omega)) <;> (try refine W_norm rfl ?_))
        | refine W_exit ?_
      )
      | refine seqK_n ?_
      | refine seqK_x ?_
      | refine blockK_e ?_
      | refine invK_x ?_)
    exact ⟨rfl, _, ⟨rfl, hs⟩, EnvB.of rfl⟩
end Go.Proofs.YtbkhjpclnfljbaaDoor
/- The document's views: the text that is selected. -/
set_option linter.unusedSimpArgs false
set_option linter.unusedVariables false
set_option maxHeartbeats 1000000
set_option maxRecDepth 100000
namespace Go.Proofs.YtbkhjpclnfljbaaDoor
open Go Go.Jx

/-- A view of the document's, with a mark. -/
abbrev rvM (id : Nat) (lv : SV) (v : Vw) (a b : Int) : Hp := [(id, .cells 54 .own [lv, .int .i64 v.h, .int .i64 v.top, .int .i64 v.x, .int .i64 v.y, .bool true, .int .i64 a, .int .i64 b])]
theorem w28 {R : Ro} {M : List Hp} {h : Heap} {id : Nat} {lv : SV} {v : Vw} {G : List LnC} (hs : Sep R (rvO id lv v :: M) h) (hG : LnsR R lv G) (hm : G.map lnOf = v.L) (ok : OkV v) :
    Wc DD 28 [.sc (.ptr id 0)] h fun w h' => w = .sc (.str (textV v)) ∧ Sep R (rvO id lv v :: M) h' := by
  have hlen : G.length = v.L.length := by rw [← hm, List.length_map]
  have hl : Len lv v.L.length := by have := hG.ln; rwa [hlen] at this
  have ok1 := ok.l.len
  have ok2 := ok.l.big
  have hln := hG.1
  have hGl : (G.map Prod.fst).length = v.L.length := by rw [List.length_map]; exact hlen
  rcases hmm : v.m with _ | ⟨a, b⟩
  · have e : textV v = [] := by unfold textV; rw [hmm]
    have eO : rvO id lv v = [(id, .cells 54 .own [lv, .int .i64 v.h, .int .i64 v.top, .int .i64 v.x, .int .i64 v.y, .bool false, .int .i64 0, .int .i64 0])] := by unfold rvO; rw [hmm]; rfl
    rw [e]
    rw [eO] at hs ⊢
    refine W_enter d28 ?_
    show W _ (.code m28_code [.sc (.ptr id 0), undefA, undefA, undefA, undefA, undefA, undefA, undefA, undefA, undefA, undefA, undefA, undefA, undefA, undefA, undefA, undefA, undefA, undefA, undefA, undefA, undefA, undefA, undefA, undefA, undefA, undefA, undefA, undefA, undefA, undefA, undefA, undefA, undefA, undefA, undefA, undefA, undefA, undefA, undefA, undefA, undefA, undefA, undefA, undefA, undefA, undefA, undefA, undefA, undefA, undefA, undefA, undefA, undefA, undefA, undefA, undefA, undefA, undefA, undefA, undefA, undefA, undefA, undefA, undefA, undefA, undefA, undefA, undefA, undefA, undefA, undefA, undefA, undefA, undefA, undefA, undefA, undefA, undefA, undefA, undefA, undefA, undefA, undefA, undefA, undefA, undefA, undefA, undefA, undefA, undefA, undefA, undefA, undefA, undefA, undefA, undefA, undefA, undefA, undefA, undefA, undefA, undefA, undefA, undefA, undefA, undefA, undefA, undefA, undefA, undefA, undefA, undefA, undefA, undefA, undefA, undefA, undefA, undefA, undefA, undefA, undefA, undefA, undefA, undefA, undefA, undefA, undefA, undefA, undefA, undefA, undefA, undefA, undefA, undefA, undefA, undefA, undefA, undefA, undefA, undefA, undefA, undefA, undefA, undefA, undefA, undefA, undefA, undefA, undefA, undefA, undefA, undefA, undefA, undefA, undefA, undefA, undefA, undefA, undefA, undefA, undefA, undefA, undefA, undefA, undefA, undefA, undefA, undefA, undefA, undefA, undefA, undefA, undefA] _) _
    unfold m28_code
    repeat' (first
      | (refine K_ops ?_; first
        | refine W_fastB rfl ?_
        | refine W_nil ?_
        | (refine K_load ?_; first
          | (refine W_loadC hs 0 rfl rfl rfl ?_; refine W_norm rfl ?_)
        )
      )
      | (refine K_code ?_; first
        | refine W_seq ?_
        | refine W_ops ?_
        | refine W_cond_t rfl ?_
        | refine W_ret ?_
      )
      | refine seqK_n ?_
      | refine seqK_r ?_
      | (refine fnK_r rfl ?_; try dsimp only [gd_z, gd_s]))
    exact ⟨_, rfl, rfl, hs⟩
  · have e : textV v = selT v.L (a, b) (v.x, v.y) := by unfold textV; rw [hmm]
    have eO : rvO id lv v = rvM id lv v a b := by unfold rvO; rw [hmm]; rfl
    rw [e]
    rw [eO] at hs ⊢
    have hpin : InV v.L (a, b) := by obtain ⟨m1, m2, m3, m4⟩ := ok.mm a b hmm; exact ⟨m1, m2, m3, m4⟩
    have hqin : InV v.L (v.x, v.y) := ⟨ok.y0, ok.y1, ok.x0, ok.x1⟩
    obtain ⟨hPin, hZin⟩ := sel_in hpin hqin
    have hPZ := sel_le (a, b) (v.x, v.y)
    unfold selT
    obtain ⟨P, hP⟩ : ∃ P, P = selA (a, b) (v.x, v.y) := ⟨_, rfl⟩
    obtain ⟨Z, hZ⟩ : ∃ Z, Z = selZ (a, b) (v.x, v.y) := ⟨_, rfl⟩
    rw [← hP] at hPin hPZ ⊢
    rw [← hZ] at hZin hPZ ⊢
    refine W_enter d28 ?_
    show W _ (.code m28_code [.sc (.ptr id 0), undefA, undefA, undefA, undefA, undefA, undefA, undefA, undefA, undefA, undefA, undefA, undefA, undefA, undefA, undefA, undefA, undefA, undefA, undefA, undefA, undefA, undefA, undefA, undefA, undefA, undefA, undefA, undefA, undefA, undefA, undefA, undefA, undefA, undefA, undefA, undefA, undefA, undefA, undefA, undefA, undefA, undefA, undefA, undefA, undefA, undefA, undefA, undefA, undefA, undefA, undefA, undefA, undefA, undefA, undefA, undefA, undefA, undefA, undefA, undefA, undefA, undefA, undefA, undefA, undefA, undefA, undefA, undefA, undefA, undefA, undefA, undefA, undefA, undefA, undefA, undefA, undefA, undefA, undefA, undefA, undefA, undefA, undefA, undefA, undefA, undefA, undefA, undefA, undefA, undefA, undefA, undefA, undefA, undefA, undefA, undefA, undefA, undefA, undefA, undefA, undefA, undefA, undefA, undefA, undefA, undefA, undefA, undefA, undefA, undefA, undefA, undefA, undefA, undefA, undefA, undefA, undefA, undefA, undefA, undefA, undefA, undefA, undefA, undefA, undefA, undefA, undefA, undefA, undefA, undefA, undefA, undefA, undefA, undefA, undefA, undefA, undefA, undefA, undefA, undefA, undefA, undefA, undefA, undefA, undefA, undefA, undefA, undefA, undefA, undefA, undefA, undefA, undefA, undefA, undefA, undefA, undefA, undefA, undefA, undefA, undefA, undefA, undefA, undefA, undefA, undefA, undefA, undefA, undefA, undefA, undefA, undefA, undefA] _) _
    unfold m28_code
    repeat' (first
      | (refine K_ops ?_; first
        | refine W_fastB rfl ?_
        | refine W_nil ?_
        | (refine K_load ?_; first
          | (refine W_loadC hs 0 rfl rfl rfl ?_; refine W_norm rfl ?_)
        )
      )
      | (refine K_code ?_; first
        | (refine W_midB (a := .draw m28_r3) [3, 4, 5, 6, 19, 20, 21, 22, 23, 24, 25, 26, 27, 28, 29, 30, 31, 32, 33, 34] [0, 1, 2, 3, 4, 5, 6, 7, 8, 9, 10, 11, 12, 13, 14, 15, 16, 17, 18, 19, 20, 21, 22, 23, 24, 25, 26, 27, 28, 29, 30, 31, 32, 33, 34, 35, 36, 37, 38, 39, 40, 41, 42, 43, 44, 45, 46, 47, 48, 49, 50, 51, 52, 53, 54, 55, 56, 57, 58, 59, 60, 61, 62, 63, 64, 65, 66, 67, 68, 69, 70, 71, 72, 73, 74, 75, 76, 77, 78, 79, 80, 81, 82, 83, 84, 85, 86, 87, 88, 89, 90, 91, 92, 93, 94, 95, 96, 97, 98, 99, 100, 101, 102, 103, 104, 105, 106, 107, 108, 109, 110, 111, 112, 113, 114, 115, 116, 117, 118, 119, 120, 121, 122, 123, 124, 125, 126, 127, 128, 129, 130, 131, 132, 133, 134, 135, 136, 137, 138, 139, 140, 141, 142, 143, 144, 145, 146, 147, 148, 149, 150, 151, 152, 153, 154, 155, 156, 157, 158, 159, 160, 161, 162, 163, 164, 165, 166, 167, 168, 169, 170, 171, 172, 173] (fun sl h' => sl = [(3, i64 a), (4, i64 b), (5, i64 v.x), (6, i64 v.y)] ∧ Sep R (rvM id lv v a b :: M) h') ?_ ?_)
        | refine W_seq ?_
        | refine W_ops ?_
        | refine W_cond_f rfl ?_
        | refine W_skip ?_
        | refine W_draw rfl ?_
      )
      | refine seqK_n ?_
      | refine midK_n ?_)
    · exact ⟨_, ⟨rfl, hs⟩, EnvB.of rfl⟩
    clear hs
    rintro _ us _ h2 ⟨rfl, hs⟩ he
    refine W_spell he rfl ?_
    clear he
    repeat' (first
      | (refine K_ops ?_; first
        | refine W_fastB rfl ?_
        | refine W_nil ?_
        | (refine K_guard ?_; first
          | refine W_guard_on rfl ?_
          | refine W_guard_off rfl rfl (W_norm rfl ?_)
          | refine W_guard_u rfl (W_norm rfl ?_)
          | (refine W_guardT rfl (fun hc => ?_) (fun hc => ?_) <;> (try rw [hc]) <;> (try simp only [decide_eq_true_eq, decide_eq_false_iff_not, beq_iff_eq, beq_eq_false_iff_ne, bne_iff_ne, bne_eq_false_iff_eq, Bool.not_eq_true', Bool.not_eq_false', Int.not_lt, Int.not_le, ne_eq, reduceCtorEq, not_true_eq_false, not_false_eq_true, Decidable.not_not] at hc) <;> (try (exfalso; omega)) <;> (try refine W_norm rfl ?_))
          | (refine W_guardF rfl (fun hc => ?_) (fun hc => ?_) <;> (try rw [hc]) <;> (try simp only [decide_eq_true_eq, decide_eq_false_iff_not, beq_iff_eq, beq_eq_false_iff_ne, bne_iff_ne, bne_eq_false_iff_eq, Bool.not_eq_true', Bool.not_eq_false', Int.not_lt, Int.not_le, ne_eq, reduceCtorEq, not_true_eq_false, not_false_eq_true, Decidable.not_not] at hc) <;> (try (exfalso; omega)) <;> (try refine W_norm rfl ?_))
        )
        | (refine K_pick ?_; first
          | refine W_pick_t rfl rfl (W_norm rfl ?_)
          | refine W_pick_f rfl rfl (W_norm rfl ?_)
        )
      )
      | (refine K_code ?_; first
        | (refine W_midB (a := .seq (.ops m28_r4) _) [3, 4, 5, 6, 35, 36, 37, 38, 39, 40, 41, 42, 43, 44, 45, 46, 47, 48, 49, 50, 51] [0, 1, 2, 3, 4, 5, 6, 7, 8, 9, 10, 11, 12, 13, 14, 15, 16, 17, 18, 19, 20, 21, 22, 23, 24, 25, 26, 27, 28, 29, 30, 31, 32, 33, 34, 35, 36, 37, 38, 39, 40, 41, 42, 43, 44, 45, 46, 47, 48, 49, 50, 51, 52, 53, 54, 55, 56, 57, 58, 59, 60, 61, 62, 63, 64, 65, 66, 67, 68, 69, 70, 71, 72, 73, 74, 75, 76, 77, 78, 79, 80, 81, 82, 83, 84, 85, 86, 87, 88, 89, 90, 91, 92, 93, 94, 95, 96, 97, 98, 99, 100, 101, 102, 103, 104, 105, 106, 107, 108, 109, 110, 111, 112, 113, 114, 115, 116, 117, 118, 119, 120, 121, 122, 123, 124, 125, 126, 127, 128, 129, 130, 131, 132, 133, 134, 135, 136, 137, 138, 139, 140, 141, 142, 143, 144, 145, 146, 147, 148, 149, 150, 151, 152, 153, 154, 155, 156, 157, 158, 159, 160, 161, 162, 163, 164, 165, 166, 167, 168, 169, 170, 171, 172, 173] (fun sl h' => sl = [(3, i64 P.1), (4, i64 P.2), (5, i64 Z.1), (6, i64 Z.2)] ∧ Sep R (rvM id lv v a b :: M) h') ?_ ?_)
        | refine W_seq ?_
        | refine W_ops ?_
        | refine W_cond_t rfl ?_
        | refine W_cond_f rfl ?_
        | (refine W_cond rfl (fun hc => ?_) (fun hc => ?_) <;> (try rw [hc]) <;> (try simp only [decide_eq_true_eq, decide_eq_false_iff_not, beq_iff_eq, beq_eq_false_iff_ne, bne_iff_ne, bne_eq_false_iff_eq, Bool.not_eq_true', Bool.not_eq_false', Int.not_lt, Int.not_le, ne_eq, reduceCtorEq, not_true_eq_false, not_false_eq_true, Decidable.not_not] at hc) <;> (try (exfalso; omega)) <;> (try refine W_norm rfl ?_))
        | refine W_skip ?_
      )
      | refine seqK_n ?_
      | refine midK_n ?_)
    iterate 4
      · first
        | (rw [show P = (v.x, v.y) by rw [hP]; unfold selA; rw [if_pos (by unfold bef; rw [decide_eq_true_eq]; simp only; omega)], show Z = (a, b) by rw [hZ]; unfold selZ; rw [if_pos (by unfold bef; rw [decide_eq_true_eq]; simp only; omega)]]
           exact ⟨_, ⟨rfl, hs⟩, EnvB.of rfl⟩)
        | (rw [show P = (a, b) by rw [hP]; unfold selA; rw [if_neg (by unfold bef; rw [decide_eq_true_eq]; simp only; omega)], show Z = (v.x, v.y) by rw [hZ]; unfold selZ; rw [if_neg (by unfold bef; rw [decide_eq_true_eq]; simp only; omega)]]
           exact ⟨_, ⟨rfl, hs⟩, EnvB.of rfl⟩)
    clear hs
    rintro _ us _ h3 ⟨rfl, hs⟩ he
    refine W_spell he rfl ?_
    clear he
    clear hP hZ hpin hqin
    have hPin' := hPin
    have hZin' := hZin
    obtain ⟨p1, p2, p3, p4⟩ := hPin'
    obtain ⟨z1, z2, z3, z4⟩ := hZin'
    repeat' (first
      | (refine K_ops ?_; first
        | refine W_fastB rfl ?_
        | refine W_nil ?_
      )
      | (refine K_code ?_; first
        | refine W_seq ?_
        | refine W_ops ?_
        | refine W_block ?_
      )
      | refine seqK_n ?_)
    refine W_loopB [7, 8, 9, 10, 11, 12, 13, 53, 54, 55, 56, 57, 58, 59, 60, 61, 62, 63, 64, 65, 66, 67, 68, 69, 70, 71, 72, 73, 74, 75, 76, 77, 78, 79, 80, 81, 82, 83, 84, 85, 86, 87, 88, 89, 90, 91, 92, 93, 94, 95, 96, 97, 98, 99, 100, 101, 102, 103, 104, 105, 106, 107, 108, 109, 110, 111, 112, 113, 114, 115, 116, 117, 118, 119, 120, 121, 122, 123, 124, 125, 126, 127, 128, 129, 130, 131, 132, 133, 134, 135, 136, 137, 138, 139, 140, 141, 142, 143, 144, 145, 146, 147, 148, 149, 150, 151, 152, 153, 154, 155, 156, 157, 158, 159, 160, 161, 162, 163, 164, 165, 166, 167, 168, 169, 170, 171, 172] [0, 1, 2, 3, 4, 5, 6, 7, 8, 9, 10, 11, 12, 13, 14, 15, 16, 17, 18, 19, 20, 21, 22, 23, 24, 25, 26, 27, 28, 29, 30, 31, 32, 33, 34, 35, 36, 37, 38, 39, 40, 41, 42, 43, 44, 45, 46, 47, 48, 49, 50, 51, 52, 53, 54, 55, 56, 57, 58, 59, 60, 61, 62, 63, 64, 65, 66, 67, 68, 69, 70, 71, 72, 73, 74, 75, 76, 77, 78, 79, 80, 81, 82, 83, 84, 85, 86, 87, 88, 89, 90, 91, 92, 93, 94, 95, 96, 97, 98, 99, 100, 101, 102, 103, 104, 105, 106, 107, 108, 109, 110, 111, 112, 113, 114, 115, 116, 117, 118, 119, 120, 121, 122, 123, 124, 125, 126, 127, 128, 129, 130, 131, 132, 133, 134, 135, 136, 137, 138, 139, 140, 141, 142, 143, 144, 145, 146, 147, 148, 149, 150, 151, 152, 153, 154, 155, 156, 157, 158, 159, 160, 161, 162, 163, 164, 165, 166, 167, 168, 169, 170, 171, 172, 173] (fun n' sl h' => ∃ (n : Nat), sl = [(7, .sc (.str (linesT v.L P Z n))), (8, .sc (.int .i64 (P.2 + (n : Int))))] ∧ n' = (Z.2 - P.2 + 1).toNat - n ∧ n ≤ (Z.2 - P.2 + 1).toNat ∧ Sep R (rvM id lv v a b :: M) h') ?_ ?_
    · refine ⟨_, _, ⟨0, rfl, rfl, Nat.zero_le _, hs⟩, ?_⟩
      rw [show P.2 + ((0 : Nat) : Int) = P.2 by omega]
      exact EnvB.of rfl
    clear hs
    rintro _ _ us2 _ h4 ⟨n, rfl, rfl, hn, hs⟩ he
    refine W_spell he rfl ?_
    clear he
    unfold m28_l8
    by_cases hlt : n < (Z.2 - P.2 + 1).toNat
    · have hll := linesT_length ok.l hPin hZin n (by omega)
      obtain ⟨Y, hY⟩ : ∃ Y : Nat, P.2 + (n : Int) = (Y : Int) := ⟨(P.2 + (n : Int)).toNat, by omega⟩
      have hYL : Y < v.L.length := by omega
      have hYG : Y < G.length := by omega
      have hrow := hG.at hYG
      have hrl := hrow.ln
      have hw := wid_at hm hYG
      have hwl := ok.l.wid (y := (Y : Int)) (by omega) (by omega)
      obtain ⟨F, hF⟩ : ∃ F : Nat, (F : Int) = if (Y : Int) = P.2 then P.1 else 0 := ⟨(if (Y : Int) = P.2 then P.1 else 0).toNat, by split <;> omega⟩
      obtain ⟨T, hT⟩ : ∃ T : Int, T = if (Y : Int) = Z.2 then Z.1 else wid v.L Y - 1 := ⟨_, rfl⟩
      have hTle : 0 ≤ T ∧ T < ((atC G Y).length : Int) := by
        rw [← hw, hT]
        split
        · rename_i e; rw [e]; exact ⟨z3, z4⟩
        · omega
      obtain ⟨B, hB⟩ : ∃ B : Int, B = if T = ((atC G Y).length : Int) - 1 ∧ ((atH G Y).j = true ∧ (atH G Y).s = true) then T - 1 else T := ⟨_, rfl⟩
      have hBl : B < (atC G Y).length := by rw [hB]; split <;> omega
      have ix : TxI (atC G Y).length P Z Y (atH G Y).j (atH G Y).s F T B := ⟨hF, by rw [hT, hw], hTle.2, hB⟩
      have hcl := ok.l.cells (atL G Y) (by rw [← hm]; exact List.mem_of_getElem? (lnOf_atH hYG))
      have hpe : partT (v.L.getD ((Y : Int)).toNat ln0) F T = partT (atL G Y) F T := by rw [Int.toNat_natCast, line_at hm hYG]
      have hpl := partT_length ok.l (y := (Y : Int)) (a := (F : Int)) (b := T) (by omega) (by omega) (by omega) (by omega)
      rw [hpe] at hpl
      have hpt : partT (atL G Y) (F : Int) T = if T = ((atC G Y).length : Int) - 1 ∧ (atH G Y).j = false then trimB (segB (atC G Y) F (B - F + 1).toNat) 32 else segB (atC G Y) F (B - F + 1).toNat := by
        unfold partT
        simp only [Int.toNat_natCast, ← hB]
      obtain ⟨S, hS⟩ : ∃ S : List UInt8, S = linesT v.L P Z n ++ (if P.2 < (Y : Int) ∧ (v.L.getD ((Y : Int) - 1).toNat ln0).joined = false then [10] else []) := ⟨_, rfl⟩
      have hll2 : (linesT v.L P Z n).length ≤ 900 * 4001 := Nat.le_trans hll (Nat.mul_le_mul_right _ (by omega))
      have hrw : linesT v.L P Z (n + 1) = S ++ partT (atL G Y) F T := by
        rw [linesT_succ, hY, hS, List.append_assoc, ← hpe]
        congr 1
        unfold rowT
        rw [← hF, ← hT]
      have hSl : S.length ≤ 900 * 4001 + 1 := by
        rw [hS, List.length_append]
        split
        · simp only [List.length_cons, List.length_nil]; omega
        · simp only [List.length_nil]; omega
      have hYZ : (Y : Int) ≤ Z.2 := by omega
      have hYP : P.2 ≤ (Y : Int) := by omega
      have hTl : T = ((atC G Y).length : Int) - 1 ↔ ((Y : Int) < Z.2 ∨ Z.1 = ((atC G Y).length : Int) - 1) := by
        rw [hT, hw]
        split <;> omega
      rw [hY]
      clear hF hT hB hpe hll
      obtain ⟨W0, hW0⟩ : ∃ W0, W0 = linesT v.L P Z n := ⟨_, rfl⟩
      rw [← hW0] at hll2 hS ⊢
      repeat' (first
        | (refine K_ops ?_; first
          | refine W_fastB rfl ?_
          | refine W_nil ?_
          | (refine K_index ?_; first
            | (refine W_indexR rfl rfl (by assumption) rfl ⟨(by first | omega | (simp only [List.length_set, List.length_append, List.length_take, List.length_drop, List.length_replicate, List.length_cons, List.length_nil, decs_length, List.length_map]; omega)), (by first | omega | (simp only [List.length_set, List.length_append, List.length_take, List.length_drop, List.length_replicate, List.length_cons, List.length_nil, decs_length, List.length_map]; omega))⟩ ?_; intro _ _ _; refine W_norm rfl ?_)
          )
          | (refine K_load ?_; first
            | (refine W_loadRA hs rfl (by assumption) rfl ?_; refine W_norm rfl ?_)
            | (refine W_loadC hs 0 rfl rfl rfl ?_; refine W_norm rfl ?_)
          )
          | (refine K_store ?_; first
            | (refine W_storeC hs 0 rfl rfl rfl rfl (by first | decide | assumption) rfl rfl ?_; clear hs; intro _ hs; try simp only [cell_back, attr_back, List.set_cons_zero, List.set_cons_succ, List.eraseIdx_cons_succ, List.eraseIdx_zero, List.tail_cons, List.nil_append, List.cons_append] at hs; refine W_norm rfl ?_)
          )
          | (refine W_allocS hs ?_; clear hs; intro al _ hs; try simp only [cell_back, attr_back, List.set_cons_zero, List.set_cons_succ, List.eraseIdx_cons_succ, List.eraseIdx_zero, List.tail_cons, List.nil_append, List.cons_append] at hs; refine W_norm rfl ?_)
        )
        | (refine K_code ?_; first
          | ((refine W_seq ?_; refine (w28_line (g := atH G Y) (C := atC G Y) (Y := Y) (F := F) (T := T) (B := B) ⟨rfl, rfl, rfl, rfl, rfl, rfl, rfl, rfl, rfl, rfl, trivial⟩ hs hrow ix hBl hcl.2).mono ?_))
          | refine W_seq ?_
          | refine W_ops ?_
          | (refine W_cond rfl (fun hc => ?_) (fun hc => ?_) <;> (try rw [hc]) <;> (try simp only [decide_eq_true_eq, decide_eq_false_iff_not, beq_iff_eq, beq_eq_false_iff_ne, bne_iff_ne, bne_eq_false_iff_eq, Bool.not_eq_true', Bool.not_eq_false', Int.not_lt, Int.not_le, ne_eq, reduceCtorEq, not_true_eq_false, not_false_eq_true, Decidable.not_not] at hc) <;> (try (exfalso; omega)) <;> (try refine W_norm rfl ?_))
          | refine W_skip ?_
          | refine W_block ?_
        )
        | refine seqK_n ?_)
      clear ix hBl
      have htl := trimB_length (segB (atC G Y) F (B - F + 1).toNat) 32
      have htc := trimB_cut (segB (atC G Y) F (B - F + 1).toNat) 32
      obtain ⟨S1, hS1⟩ : ∃ S1, S1 = segB (atC G Y) F (B - F + 1).toNat := ⟨_, rfl⟩
      rw [← hS1] at hpt htl htc ⊢
      rintro _ _ h4 ⟨rfl, _, ⟨rfl, hs⟩, us3, he⟩
      refine seqK_n ?_
      refine W_spell he rfl ?_
      clear he
      repeat' (first
        | (refine K_ops ?_; first
          | refine W_fastB rfl ?_
          | refine W_nil ?_
          | (refine K_guard ?_; first
            | refine W_guard_on rfl ?_
            | refine W_guard_off rfl rfl (W_norm rfl ?_)
            | refine W_guard_u rfl (W_norm rfl ?_)
            | (refine W_guardT rfl (fun hc => ?_) (fun hc => ?_) <;> (try rw [hc]) <;> (try simp only [decide_eq_true_eq, decide_eq_false_iff_not, beq_iff_eq, beq_eq_false_iff_ne, bne_iff_ne, bne_eq_false_iff_eq, Bool.not_eq_true', Bool.not_eq_false', Int.not_lt, Int.not_le, ne_eq, reduceCtorEq, not_true_eq_false, not_false_eq_true, Decidable.not_not] at hc) <;> (try (exfalso; omega)) <;> (try refine W_norm rfl ?_))
            | (refine W_guardF rfl (fun hc => ?_) (fun hc => ?_) <;> (try rw [hc]) <;> (try simp only [decide_eq_true_eq, decide_eq_false_iff_not, beq_iff_eq, beq_eq_false_iff_ne, bne_iff_ne, bne_eq_false_iff_eq, Bool.not_eq_true', Bool.not_eq_false', Int.not_lt, Int.not_le, ne_eq, reduceCtorEq, not_true_eq_false, not_false_eq_true, Decidable.not_not] at hc) <;> (try (exfalso; omega)) <;> (try refine W_norm rfl ?_))
          )
          | (refine W_lenL rfl (by first | assumption | exact SlR.ln (by assumption) | exact AccS.ln (by assumption) | exact OwnS.ln (by assumption) | exact VwO.ln (by assumption) | exact OwnP.ln (by assumption) | exact Len.sl) ?_; refine W_norm rfl ?_)
          | (refine K_bin ?_; first
            | (refine W_sub rfl rfl (IntWalk.i64_in _ (by first | omega | (simp only [List.length_set, List.length_append, List.length_take, List.length_drop, List.length_replicate, List.length_cons, List.length_nil, decs_length, List.length_map]; omega))) ?_; refine W_norm rfl ?_)
          )
          | (refine K_pick ?_; first
            | refine W_pick_t rfl rfl (W_norm rfl ?_)
            | refine W_pick_f rfl rfl (W_norm rfl ?_)
          )
          | (refine K_load ?_; first
            | (refine W_loadC hs 0 rfl rfl rfl ?_; refine W_norm rfl ?_)
          )
          | (refine W_sliceStrTo rfl rfl ⟨(by first | omega | (simp only [List.length_set, List.length_append, List.length_take, List.length_drop, List.length_replicate, List.length_cons, List.length_nil, decs_length, List.length_map]; omega)), (by first | omega | (simp only [List.length_set, List.length_append, List.length_take, List.length_drop, List.length_replicate, List.length_cons, List.length_nil, decs_length, List.length_map]; omega))⟩ ?_; refine W_norm rfl ?_)
        )
        | (refine K_code ?_; first
          | (refine W_midB (a := .seq (.ops m28_r24) _) [10, 134, 135, 136, 137, 138, 139, 140, 141, 142, 143, 144, 145, 146, 147, 148, 149, 150, 151, 152] [0, 1, 2, 3, 4, 5, 6, 7, 8, 9, 10, 11, 12, 13, 14, 15, 16, 17, 18, 19, 20, 21, 22, 23, 24, 25, 26, 27, 28, 29, 30, 31, 32, 33, 34, 35, 36, 37, 38, 39, 40, 41, 42, 43, 44, 45, 46, 47, 48, 49, 50, 51, 52, 53, 54, 55, 56, 57, 58, 59, 60, 61, 62, 63, 64, 65, 66, 67, 68, 69, 70, 71, 72, 73, 74, 75, 76, 77, 78, 79, 80, 81, 82, 83, 84, 85, 86, 87, 88, 89, 90, 91, 92, 93, 94, 95, 96, 97, 98, 99, 100, 101, 102, 103, 104, 105, 106, 107, 108, 109, 110, 111, 112, 113, 114, 115, 116, 117, 118, 119, 120, 121, 122, 123, 124, 125, 126, 127, 128, 129, 130, 131, 132, 133, 134, 135, 136, 137, 138, 139, 140, 141, 142, 143, 144, 145, 146, 147, 148, 149, 150, 151, 152, 153, 154, 155, 156, 157, 158, 159, 160, 161, 162, 163, 164, 165, 166, 167, 168, 169, 170, 171, 172, 173] (fun sl h' => sl = [(10, .sc (.str (partT (atL G Y) (F : Int) T)))] ∧ Sep R ([(al, .cells 90 .own (lnE.enc (atH G Y)))] :: rvM id lv v a b :: M) h') ?_ ?_)
          | refine W_seq ?_
          | refine W_ops ?_
          | refine W_cond_t rfl ?_
          | refine W_cond_f rfl ?_
          | (refine W_cond rfl (fun hc => ?_) (fun hc => ?_) <;> (try rw [hc]) <;> (try simp only [decide_eq_true_eq, decide_eq_false_iff_not, beq_iff_eq, beq_eq_false_iff_ne, bne_iff_ne, bne_eq_false_iff_eq, Bool.not_eq_true', Bool.not_eq_false', Int.not_lt, Int.not_le, ne_eq, reduceCtorEq, not_true_eq_false, not_false_eq_true, Decidable.not_not] at hc) <;> (try (exfalso; omega)) <;> (try refine W_norm rfl ?_))
          | refine W_skip ?_
        )
        | refine seqK_n ?_
        | refine midK_n ?_)
      all_goals first
        | (rw [show partT (atL G Y) (F : Int) T = S1.take (((trimB S1 32).length : Int)).toNat by rw [hpt, if_pos ⟨hTl.2 (by omega), by assumption⟩, Int.toNat_natCast, htc]]
           exact ⟨_, ⟨rfl, hs⟩, EnvB.of rfl⟩)
        | (rw [show partT (atL G Y) (F : Int) T = S1 by rw [hpt, if_neg (by rintro ⟨q1, q2⟩; have := hTl.1 q1; first | omega | simp_all)]]
           exact ⟨_, ⟨rfl, hs⟩, EnvB.of rfl⟩)
        | skip
      clear hs hpt htl htc hTl
      rintro _ us4 _ h5 ⟨rfl, hs⟩ he
      refine W_spell he rfl ?_
      clear he
      repeat' (first
        | (refine K_ops ?_; first
          | refine W_fastB rfl ?_
          | refine W_nil ?_
          | (refine K_guard ?_; first
            | refine W_guard_on rfl ?_
            | refine W_guard_off rfl rfl (W_norm rfl ?_)
            | (refine W_guardT rfl (fun hc => ?_) (fun hc => ?_) <;> (try rw [hc]) <;> (try simp only [decide_eq_true_eq, decide_eq_false_iff_not, beq_iff_eq, beq_eq_false_iff_ne, bne_iff_ne, bne_eq_false_iff_eq, Bool.not_eq_true', Bool.not_eq_false', Int.not_lt, Int.not_le, ne_eq, reduceCtorEq, not_true_eq_false, not_false_eq_true, Decidable.not_not] at hc) <;> (try (exfalso; omega)) <;> (try refine W_norm rfl ?_))
          )
          | (refine K_bin ?_; first
            | (refine W_sub rfl rfl (IntWalk.i64_in _ (by first | omega | (simp only [List.length_set, List.length_append, List.length_take, List.length_drop, List.length_replicate, List.length_cons, List.length_nil, decs_length, List.length_map]; omega))) ?_; refine W_norm rfl ?_)
            | (refine W_cat rfl rfl (by first | omega | (simp only [List.length_set, List.length_append, List.length_take, List.length_drop, List.length_replicate, List.length_cons, List.length_nil, decs_length, List.length_map]; omega)) ?_; refine W_norm rfl ?_)
          )
          | (refine K_pick ?_; first
            | refine W_pick_t rfl rfl (W_norm rfl ?_)
            | refine W_pick_f rfl rfl (W_norm rfl ?_)
          )
          | (refine K_index ?_; first
            | (refine W_indexR rfl rfl (by assumption) rfl ⟨(by first | omega | (simp only [List.length_set, List.length_append, List.length_take, List.length_drop, List.length_replicate, List.length_cons, List.length_nil, decs_length, List.length_map]; omega)), (by first | omega | (simp only [List.length_set, List.length_append, List.length_take, List.length_drop, List.length_replicate, List.length_cons, List.length_nil, decs_length, List.length_map]; omega))⟩ ?_; intro _ _ _; refine W_norm rfl ?_)
          )
          | (refine K_load ?_; first
            | (refine W_loadRF hs rfl (by assumption) rfl ?_; refine W_norm rfl ?_)
            | (refine W_loadC hs 1 rfl rfl rfl ?_; refine W_norm rfl ?_)
          )
        )
        | (refine K_code ?_; first
          | (refine W_midB (a := .seq (.ops m28_r26) _) [7, 153, 154, 155, 156, 157, 158, 159, 160, 161, 162, 163, 164, 165, 166, 167, 168, 169] [0, 1, 2, 3, 4, 5, 6, 7, 8, 9, 10, 11, 12, 13, 14, 15, 16, 17, 18, 19, 20, 21, 22, 23, 24, 25, 26, 27, 28, 29, 30, 31, 32, 33, 34, 35, 36, 37, 38, 39, 40, 41, 42, 43, 44, 45, 46, 47, 48, 49, 50, 51, 52, 53, 54, 55, 56, 57, 58, 59, 60, 61, 62, 63, 64, 65, 66, 67, 68, 69, 70, 71, 72, 73, 74, 75, 76, 77, 78, 79, 80, 81, 82, 83, 84, 85, 86, 87, 88, 89, 90, 91, 92, 93, 94, 95, 96, 97, 98, 99, 100, 101, 102, 103, 104, 105, 106, 107, 108, 109, 110, 111, 112, 113, 114, 115, 116, 117, 118, 119, 120, 121, 122, 123, 124, 125, 126, 127, 128, 129, 130, 131, 132, 133, 134, 135, 136, 137, 138, 139, 140, 141, 142, 143, 144, 145, 146, 147, 148, 149, 150, 151, 152, 153, 154, 155, 156, 157, 158, 159, 160, 161, 162, 163, 164, 165, 166, 167, 168, 169, 170, 171, 172, 173] (fun sl h' => sl = [(7, .sc (.str S))] ∧ Sep R ([(al, .cells 90 .own (lnE.enc (atH G Y)))] :: rvM id lv v a b :: M) h') ?_ ?_)
          | refine W_seq ?_
          | refine W_ops ?_
          | refine W_cond_f rfl ?_
          | (refine W_cond rfl (fun hc => ?_) (fun hc => ?_) <;> (try rw [hc]) <;> (try simp only [decide_eq_true_eq, decide_eq_false_iff_not, beq_iff_eq, beq_eq_false_iff_ne, bne_iff_ne, bne_eq_false_iff_eq, Bool.not_eq_true', Bool.not_eq_false', Int.not_lt, Int.not_le, ne_eq, reduceCtorEq, not_true_eq_false, not_false_eq_true, Decidable.not_not] at hc) <;> (try (exfalso; omega)) <;> (try refine W_norm rfl ?_))
          | refine W_skip ?_
        )
        | refine seqK_n ?_
        | refine midK_n ?_)
      · rw [show S = W0 ++ [10] by rw [hS, if_pos ⟨by omega, by rw [joined_at hm (by omega)]; assumption⟩]]
        exact ⟨_, ⟨rfl, hs⟩, EnvB.of rfl⟩
      · rw [show S = W0 by rw [hS, if_neg (by rintro ⟨e1, e2⟩; rw [joined_at hm (by omega)] at e2; simp_all), List.append_nil]]
        exact ⟨_, ⟨rfl, hs⟩, EnvB.of rfl⟩
      · rw [show S = W0 by rw [hS, if_neg (by rintro ⟨e1, e2⟩; omega), List.append_nil]]
        exact ⟨_, ⟨rfl, hs⟩, EnvB.of rfl⟩
      clear hs
      rintro _ us5 _ h6 ⟨rfl, hs⟩ he
      refine W_spell he rfl ?_
      clear he
      repeat' (first
        | (refine K_ops ?_; first
          | refine W_fastB rfl ?_
          | refine W_nil ?_
          | (refine K_bin ?_; first
            | (refine W_add rfl rfl (IntWalk.i64_in _ (by first | omega | (simp only [List.length_set, List.length_append, List.length_take, List.length_drop, List.length_replicate, List.length_cons, List.length_nil, decs_length, List.length_map]; omega))) ?_; refine W_norm rfl ?_)
            | (refine W_cat rfl rfl (by first | omega | (simp only [List.length_set, List.length_append, List.length_take, List.length_drop, List.length_replicate, List.length_cons, List.length_nil, decs_length, List.length_map]; omega)) ?_; refine W_norm rfl ?_)
          )
        )
        | (refine K_code ?_; first
          | refine W_ops ?_
        )
        | refine seqK_n ?_
        | refine blockK_n ?_
        | refine invK_n ?_)
      rw [← hrw]
      refine ⟨_, ?_, _, ⟨n + 1, rfl, rfl, ?_, hs.drop 0⟩, ?_⟩
      · omega
      · omega
      · rw [show P.2 + ((n + 1 : Nat) : Int) = (Y : Int) + 1 by omega]
        exact EnvB.of rfl
    · obtain rfl : n = (Z.2 - P.2 + 1).toNat := by omega
      have hll := linesT_length ok.l hPin hZin (Z.2 - P.2 + 1).toNat (by omega)
      repeat' (first
        | (refine K_ops ?_; first
          | refine W_fastB rfl ?_
          | refine W_nil ?_
        )
        | (refine K_code ?_; first
          | refine W_seq ?_
          | refine W_ops ?_
          | (refine W_cond rfl (fun hc => ?_) (fun hc => ?_) <;> (try rw [hc]) <;> (try simp only [decide_eq_true_eq, decide_eq_false_iff_not, beq_iff_eq, beq_eq_false_iff_ne, bne_iff_ne, bne_eq_false_iff_eq, Bool.not_eq_true', Bool.not_eq_false', Int.not_lt, Int.not_le, ne_eq, reduceCtorEq, not_true_eq_false, not_false_eq_true, Decidable.not_not] at hc) <;> (try (exfalso; omega)) <;> (try refine W_norm rfl ?_))
          | refine W_ret ?_
          | refine W_exit ?_
        )
        | refine seqK_n ?_
        | refine seqK_x ?_
        | refine blockK_e ?_
        | refine invK_x ?_
        | (refine fnK_r rfl ?_; try dsimp only [gd_z, gd_s]))
      exact ⟨_, rfl, rfl, hs⟩
end Go.Proofs.YtbkhjpclnfljbaaDoor
/- Two rows: the same? -/
set_option linter.unusedSimpArgs false
set_option linter.unusedVariables false
set_option maxHeartbeats 1000000
set_option maxRecDepth 100000
namespace Go.Proofs.YtbkhjpclnfljbaaDoor
open Go Go.Jx


theorem w45 {u v : SV} {A B : List Cell} {h : Heap} (hu : SlR cellE (Now h) u A) (hv : SlR cellE (Now h) v B) (hlA : A.length ≤ 100000) (hlB : B.length ≤ 100000) : Wc DD 45 [.sc u, .sc v] h fun w h' => w = bo (decide (A = B)) ∧ h' = h := by
  have hs := Sep.entry h
  refine W_enter d45 ?_
  show W _ (.code m45_code [.sc u, .sc v, undefA, undefA, undefA, undefA, undefA, undefA, undefA, undefA, undefA, undefA, undefA, undefA, undefA, undefA, undefA, undefA, undefA, undefA, undefA, undefA, undefA, undefA, undefA, undefA] _) _
  unfold m45_code
  repeat' (first
    | (refine K_ops ?_; first
      | refine W_fastB rfl ?_
      | refine W_nil ?_
      | (refine W_lenL rfl (by first | assumption | exact SlR.ln (by assumption) | exact AccS.ln (by assumption) | exact OwnS.ln (by assumption) | exact VwO.ln (by assumption) | exact OwnP.ln (by assumption) | exact Len.sl) ?_; refine W_norm rfl ?_)
    )
    | (refine K_code ?_; first
      | refine W_seq ?_
      | refine W_ops ?_
      | (refine W_cond rfl (fun hc => ?_) (fun hc => ?_) <;> (try rw [hc]) <;> (try simp only [decide_eq_true_eq, decide_eq_false_iff_not, beq_iff_eq, beq_eq_false_iff_ne, bne_iff_ne, bne_eq_false_iff_eq, Bool.not_eq_true', Bool.not_eq_false', Int.not_lt, Int.not_le, ne_eq, reduceCtorEq, not_true_eq_false, not_false_eq_true, Decidable.not_not] at hc) <;> (try (exfalso; omega)) <;> (try refine W_norm rfl ?_))
      | refine W_skip ?_
      | refine W_ret ?_
      | refine W_block ?_
    )
    | refine seqK_n ?_
    | refine seqK_r ?_
    | (refine fnK_r rfl ?_; try dsimp only [gd_z, gd_s]))
  · have hne : A ≠ B := by rintro rfl; exact hc rfl
    exact ⟨_, rfl, by rw [decide_eq_false hne], rfl⟩
  have hlen : A.length = B.length := by omega
  refine W_loopB [4, 5, 11, 12, 13, 14, 15, 16, 17, 18, 19, 20, 21, 22, 23, 24, 25] [0, 1, 2, 3, 4, 5, 6, 7, 8, 9, 10, 11, 12, 13, 14, 15, 16, 17, 18, 19, 20, 21, 22, 23, 24, 25] (fun n' sl h' => ∃ (k : Nat), sl = [(5, .sc (.int .i64 (k : Int)))] ∧ n' = A.length - k ∧ k ≤ A.length ∧ h' = h ∧ A.take k = B.take k) ?_ ?_
  · refine ⟨_, _, ⟨0, rfl, rfl, Nat.zero_le _, rfl, rfl⟩, EnvB.of rfl⟩
  rintro _ _ us _ h2 ⟨k, rfl, rfl, hk, rfl, hw⟩ he
  refine W_spell he rfl ?_
  clear he
  unfold m45_l4
  repeat' (first
    | (refine K_ops ?_; first
      | refine W_fastB rfl ?_
      | refine W_nil ?_
      | (refine W_lenL rfl (by first | assumption | exact SlR.ln (by assumption) | exact AccS.ln (by assumption) | exact OwnS.ln (by assumption) | exact VwO.ln (by assumption) | exact OwnP.ln (by assumption) | exact Len.sl) ?_; refine W_norm rfl ?_)
      | (refine K_bin ?_; first
        | (refine W_add rfl rfl (IntWalk.i64_in _ (by first | omega | (simp only [List.length_set, List.length_append, List.length_take, List.length_drop, List.length_replicate, List.length_cons, List.length_nil, decs_length, List.length_map]; omega))) ?_; refine W_norm rfl ?_)
        | (refine W_neE cellE rfl rfl rfl rfl cellE_fits ?_; refine W_norm rfl ?_)
      )
      | (refine K_index ?_; first
        | (refine W_indexR rfl rfl (by assumption) rfl ⟨(by first | omega | (simp only [List.length_set, List.length_append, List.length_take, List.length_drop, List.length_replicate, List.length_cons, List.length_nil, decs_length, List.length_map]; omega)), (by first | omega | (simp only [List.length_set, List.length_append, List.length_take, List.length_drop, List.length_replicate, List.length_cons, List.length_nil, decs_length, List.length_map]; omega))⟩ ?_; intro _ _ _; refine W_norm rfl ?_)
      )
      | (refine K_load ?_; first
        | (refine W_loadRA hs rfl (by assumption) rfl ?_; refine W_norm rfl ?_)
      )
    )
    | (refine K_code ?_; first
      | refine W_seq ?_
      | refine W_ops ?_
      | (refine W_cond rfl (fun hc => ?_) (fun hc => ?_) <;> (try rw [hc]) <;> (try simp only [decide_eq_true_eq, decide_eq_false_iff_not, beq_iff_eq, beq_eq_false_iff_ne, bne_iff_ne, bne_eq_false_iff_eq, Bool.not_eq_true', Bool.not_eq_false', Int.not_lt, Int.not_le, ne_eq, reduceCtorEq, not_true_eq_false, not_false_eq_true, Decidable.not_not] at hc) <;> (try (exfalso; omega)) <;> (try refine W_norm rfl ?_))
      | refine W_skip ?_
      | refine W_ret ?_
      | refine W_exit ?_
      | refine W_block ?_
      | refine W_draw rfl ?_
    )
    | refine seqK_n ?_
    | refine seqK_r ?_
    | refine seqK_x ?_
    | refine blockK_r ?_
    | refine blockK_n ?_
    | refine blockK_e ?_
    | refine invK_x ?_
    | refine invK_r ?_
    | refine invK_n ?_
    | (refine fnK_r rfl ?_; try dsimp only [gd_z, gd_s]))
  · refine ⟨_, rfl, ?_, rfl⟩
    rw [decide_eq_false]
    rintro rfl
    exact hc rfl
  · refine ⟨_, ?_, _, ⟨k + 1, rfl, rfl, ?_, rfl, ?_⟩, EnvB.of rfl⟩
    · omega
    · omega
    · have hcc : A.getD k cell0 = B.getD k cell0 := hc
      rw [List.take_add_one, List.take_add_one, hw, getD_get? (d := cell0) (show k < A.length by omega), getD_get? (d := cell0) (show k < B.length by omega), hcc]
  · refine ⟨_, rfl, ?_, rfl⟩
    rw [List.take_of_length_le (by omega), List.take_of_length_le (by omega)] at hw
    rw [decide_eq_true hw]


end Go.Proofs.YtbkhjpclnfljbaaDoor
/- The document's views: what the law CopyPlays calls. -/
set_option linter.unusedSimpArgs false
set_option linter.unusedVariables false
set_option maxHeartbeats 1000000
set_option maxRecDepth 100000
namespace Go.Proofs.YtbkhjpclnfljbaaDoor
open Go Go.Jx

theorem w23 {v : SV} {G : List LnC} {n : Int} {h : Heap} (hv : LnsR (Now h) v G) (hl : G.length ≤ 25) (hn : -9223372036854775808 ≤ n ∧ n ≤ 9223372036854775807) :
    Wc DD 23 [.sc v, i64 n] h fun w h' => (∃ b, w = bo b ∧ (b = true ↔ okB (G.map lnOf) n)) ∧ h' = h := by
  have hs := Sep.entry h
  have hln := hv.ln
  have hv1 := hv.1
  have hGl : (G.map Prod.fst).length = G.length := List.length_map ..
  refine W_enter d23 ?_
  show W _ (.code m23_code [.sc v, i64 n, undefA, undefA, undefA, undefA, undefA, undefA, undefA, undefA, undefA, undefA, undefA, undefA, undefA, undefA, undefA, undefA, undefA, undefA, undefA, undefA, undefA, undefA, undefA, undefA, undefA, undefA, undefA, undefA, undefA, undefA, undefA, undefA, undefA] _) _
  unfold m23_code
  repeat' (first
    | (refine K_ops ?_; first
      | refine W_fastB rfl ?_
      | refine W_nil ?_
    )
    | (refine K_code ?_; first
      | refine W_seq ?_
      | refine W_ops ?_
      | refine W_block ?_
    )
    | refine seqK_n ?_)
  refine W_loopB [4, 5, 6, 7, 8, 9, 10, 11, 12, 13, 14, 15, 16, 17, 18] [0, 1, 2, 3, 4, 5, 6, 7, 8, 9, 10, 11, 12, 13, 14, 15, 16, 17, 18, 19, 20, 21, 22, 23, 24, 25, 26, 27, 28, 29, 30, 31, 32, 33, 34] (fun n' sl h' => ∃ (k : Nat), sl = [(5, .sc (.int .i64 (k : Int)))] ∧ n' = G.length - k ∧ k ≤ G.length ∧ (∀ i, i < k → (atC G i).length ≠ 0) ∧ h' = h) ?_ ?_
  · refine ⟨_, _, ⟨0, rfl, rfl, Nat.zero_le _, fun i hi => absurd hi (by omega), rfl⟩, EnvB.of rfl⟩
  rintro _ _ us _ h ⟨k, rfl, rfl, hk, hz, rfl⟩ he
  refine W_spell he rfl ?_
  clear he
  unfold m23_l2
  by_cases hlt : k < G.length
  · have hr := (hv.at hlt).ln
    repeat' (first
      | (refine K_ops ?_; first
        | refine W_fastB rfl ?_
        | refine W_nil ?_
        | (refine W_lenL rfl (by first | assumption | exact SlR.ln (by assumption) | exact AccS.ln (by assumption) | exact OwnS.ln (by assumption) | exact VwO.ln (by assumption) | exact OwnP.ln (by assumption) | exact Len.sl) ?_; refine W_norm rfl ?_)
        | (refine K_bin ?_; first
          | (refine W_add rfl rfl (IntWalk.i64_in _ (by first | omega | (simp only [List.length_set, List.length_append, List.length_take, List.length_drop, List.length_replicate, List.length_cons, List.length_nil, decs_length, List.length_map]; omega))) ?_; refine W_norm rfl ?_)
        )
        | (refine K_index ?_; first
          | (refine W_indexR rfl rfl (by assumption) rfl ⟨(by first | omega | (simp only [List.length_set, List.length_append, List.length_take, List.length_drop, List.length_replicate, List.length_cons, List.length_nil, decs_length, List.length_map]; omega)), (by first | omega | (simp only [List.length_set, List.length_append, List.length_take, List.length_drop, List.length_replicate, List.length_cons, List.length_nil, decs_length, List.length_map]; omega))⟩ ?_; intro _ _ _; refine W_norm rfl ?_)
        )
        | (refine K_load ?_; first
          | (refine W_loadR hs rfl (by assumption) rfl ?_; refine W_norm rfl ?_)
        )
      )
      | (refine K_code ?_; first
        | refine W_seq ?_
        | refine W_ops ?_
        | (refine W_cond rfl (fun hc => ?_) (fun hc => ?_) <;> (try rw [hc]) <;> (try simp only [decide_eq_true_eq, decide_eq_false_iff_not, beq_iff_eq, beq_eq_false_iff_ne, bne_iff_ne, bne_eq_false_iff_eq, Bool.not_eq_true', Bool.not_eq_false', Int.not_lt, Int.not_le, ne_eq, reduceCtorEq, not_true_eq_false, not_false_eq_true, Decidable.not_not] at hc) <;> (try (exfalso; omega)) <;> (try refine W_norm rfl ?_))
        | refine W_skip ?_
        | refine W_ret ?_
        | refine W_block ?_
      )
      | refine seqK_n ?_
      | refine seqK_r ?_
      | refine blockK_r ?_
      | refine blockK_n ?_
      | refine invK_r ?_
      | refine invK_n ?_
      | (refine fnK_r rfl ?_; try dsimp only [gd_z, gd_s]))
    · refine ⟨_, rfl, ⟨_, rfl, ⟨fun hh => (by cases hh), fun hh => ?_⟩⟩, rfl⟩
      exact absurd (by show (atC G k).length = 0; omega) (hh.2.2.2.2 _ (List.mem_of_getElem? (lnOf_atH hlt)))
    · refine ⟨_, ?_, _, ⟨k + 1, rfl, rfl, ?_, ?_, rfl⟩, EnvB.of rfl⟩
      · omega
      · omega
      · intro i hi
        by_cases e : i = k
        · subst e; omega
        · exact hz i (by omega)
  · have hall : ∀ l ∈ G.map lnOf, l.cells.length ≠ 0 := by
      intro l hl
      obtain ⟨i, hi, e⟩ := List.getElem_of_mem hl
      have hi2 : i < G.length := by simpa using hi
      have := lnOf_atH hi2
      rw [List.getElem?_eq_getElem hi, Option.some.injEq] at this
      rw [← e, this]
      exact hz i (by omega)
    have hml : (G.map lnOf).length = G.length := List.length_map ..
    repeat' (first
      | (refine K_ops ?_; first
        | refine W_fastB rfl ?_
        | refine W_nil ?_
        | (refine K_guard ?_; first
          | refine W_guard_on rfl ?_
          | refine W_guard_off rfl rfl (W_norm rfl ?_)
          | (refine W_guardT rfl (fun hc => ?_) (fun hc => ?_) <;> (try rw [hc]) <;> (try simp only [decide_eq_true_eq, decide_eq_false_iff_not, beq_iff_eq, beq_eq_false_iff_ne, bne_iff_ne, bne_eq_false_iff_eq, Bool.not_eq_true', Bool.not_eq_false', Int.not_lt, Int.not_le, ne_eq, reduceCtorEq, not_true_eq_false, not_false_eq_true, Decidable.not_not] at hc) <;> (try (exfalso; omega)) <;> (try refine W_norm rfl ?_))
        )
        | (refine W_lenL rfl (by first | assumption | exact SlR.ln (by assumption) | exact AccS.ln (by assumption) | exact OwnS.ln (by assumption) | exact VwO.ln (by assumption) | exact OwnP.ln (by assumption) | exact Len.sl) ?_; refine W_norm rfl ?_)
        | (refine K_pick ?_; first
          | refine W_pick_t rfl rfl (W_norm rfl ?_)
          | refine W_pick_f rfl rfl (W_norm rfl ?_)
        )
      )
      | (refine K_code ?_; first
        | refine W_seq ?_
        | refine W_ops ?_
        | (refine W_cond rfl (fun hc => ?_) (fun hc => ?_) <;> (try rw [hc]) <;> (try simp only [decide_eq_true_eq, decide_eq_false_iff_not, beq_iff_eq, beq_eq_false_iff_ne, bne_iff_ne, bne_eq_false_iff_eq, Bool.not_eq_true', Bool.not_eq_false', Int.not_lt, Int.not_le, ne_eq, reduceCtorEq, not_true_eq_false, not_false_eq_true, Decidable.not_not] at hc) <;> (try (exfalso; omega)) <;> (try refine W_norm rfl ?_))
        | refine W_ret ?_
        | refine W_exit ?_
      )
      | refine seqK_n ?_
      | refine seqK_x ?_
      | refine blockK_e ?_
      | refine invK_x ?_
      | (refine fnK_r rfl ?_; try dsimp only [gd_z, gd_s]))
    all_goals
      refine ⟨_, rfl, ⟨_, rfl, ?_⟩, rfl⟩
      unfold okB
      try simp only [decide_eq_true_eq]
      constructor
      · intro hh; first | (cases hh; done) | exact ⟨by omega, by omega, by omega, by omega, hall⟩
      · rintro ⟨q1, q2, q3, q4, _⟩; omega
theorem w24 {v : SV} {G : List LnC} {h : Heap} (hv : LnsR (Now h) v G) (hl : G.length ≤ 1000) :
    Wc DD 24 [.sc v] h fun w h' => ∃ u c, w = .sc u ∧ AccS lnE 90 u (G.map Prod.fst) c ∧ Sep (Now h) [c] h' := by
  have hs := Sep.entry h
  have hln := hv.ln
  have hv1 := hv.1
  have hGl : (G.map Prod.fst).length = G.length := List.length_map ..
  refine W_enter d24 ?_
  show W _ (.code m24_code [.sc v, undefA, undefA, undefA, undefA, undefA, undefA, undefA, undefA, undefA, undefA, undefA, undefA, undefA, undefA, undefA, undefA, undefA, undefA] _) _
  unfold m24_code
  repeat' (first
    | (refine K_ops ?_; first
      | refine W_fastB rfl ?_
      | refine W_nil ?_
    )
    | (refine K_code ?_; first
      | refine W_seq ?_
      | refine W_ops ?_
      | refine W_block ?_
    )
    | refine seqK_n ?_)
  refine W_loopB [3, 4, 5, 6, 7, 8, 9, 10, 11, 12, 13, 14, 15, 16, 17] [0, 1, 2, 3, 4, 5, 6, 7, 8, 9, 10, 11, 12, 13, 14, 15, 16, 17, 18] (fun n' sl h' => ∃ (k : Nat) (u : SV) (c : Hp), sl = [(3, .sc u), (4, .sc (.int .i64 (k : Int)))] ∧ n' = G.length - k ∧ k ≤ G.length ∧ AccS lnE 90 u ((G.map Prod.fst).take k) c ∧ Sep (Now h) [c] h') ?_ ?_
  · refine ⟨_, _, ⟨0, .nils, [], rfl, rfl, Nat.zero_le _, AccS.nil _, hs.nil⟩, EnvB.of rfl⟩
  clear hs
  rintro _ _ us _ h2 ⟨k, u, c, rfl, rfl, hk, ha, hs⟩ he
  refine W_spell he rfl ?_
  clear he
  unfold m24_l3
  by_cases hlt : k < G.length
  · repeat' (first
      | (refine K_ops ?_; first
        | refine W_fastB rfl ?_
        | refine W_nil ?_
        | (refine W_lenL rfl (by first | assumption | exact SlR.ln (by assumption) | exact AccS.ln (by assumption) | exact OwnS.ln (by assumption) | exact VwO.ln (by assumption) | exact OwnP.ln (by assumption) | exact Len.sl) ?_; refine W_norm rfl ?_)
        | (refine K_bin ?_; first
          | (refine W_add rfl rfl (IntWalk.i64_in _ (by first | omega | (simp only [List.length_set, List.length_append, List.length_take, List.length_drop, List.length_replicate, List.length_cons, List.length_nil, decs_length, List.length_map]; omega))) ?_; refine W_norm rfl ?_)
        )
        | (refine K_index ?_; first
          | (refine W_indexR rfl rfl (by assumption) rfl ⟨(by first | omega | (simp only [List.length_set, List.length_append, List.length_take, List.length_drop, List.length_replicate, List.length_cons, List.length_nil, decs_length, List.length_map]; omega)), (by first | omega | (simp only [List.length_set, List.length_append, List.length_take, List.length_drop, List.length_replicate, List.length_cons, List.length_nil, decs_length, List.length_map]; omega))⟩ ?_; intro _ _ _; refine W_norm rfl ?_)
        )
        | (refine K_load ?_; first
          | (refine W_loadRA hs rfl (by assumption) rfl ?_; refine W_norm rfl ?_)
        )
        | (refine K_bslice ?_; first
          | (refine W_appB1 lnE hs 0 rfl rfl rfl (by assumption) rfl rfl rfl ⟨by decide, (by first | omega | (simp only [List.length_set, List.length_append, List.length_take, List.length_drop, List.length_replicate, List.length_cons, List.length_nil, decs_length, List.length_map]; omega))⟩ ?_; clear hs; intro _ _ _ _ _ hs; try simp only [cell_back, attr_back, List.set_cons_zero, List.set_cons_succ, List.eraseIdx_cons_succ, List.eraseIdx_zero, List.tail_cons, List.nil_append, List.cons_append] at hs; refine W_norm rfl ?_)
        )
      )
      | (refine K_code ?_; first
        | refine W_seq ?_
        | refine W_ops ?_
        | (refine W_cond rfl (fun hc => ?_) (fun hc => ?_) <;> (try rw [hc]) <;> (try simp only [decide_eq_true_eq, decide_eq_false_iff_not, beq_iff_eq, beq_eq_false_iff_ne, bne_iff_ne, bne_eq_false_iff_eq, Bool.not_eq_true', Bool.not_eq_false', Int.not_lt, Int.not_le, ne_eq, reduceCtorEq, not_true_eq_false, not_false_eq_true, Decidable.not_not] at hc) <;> (try (exfalso; omega)) <;> (try refine W_norm rfl ?_))
        | refine W_skip ?_
        | refine W_block ?_
      )
      | refine seqK_n ?_
      | refine blockK_n ?_
      | refine invK_n ?_)
    rename_i ha2
    have e : (G.map Prod.fst).take (k + 1) = (G.map Prod.fst).take k ++ [(G.map Prod.fst).getD (k : Int).toNat lnE.dflt] := by
      rw [List.take_add_one, Int.toNat_natCast, getD_get? (d := lnE.dflt) (show k < (G.map Prod.fst).length by omega)]; rfl
    refine ⟨_, ?_, _, ⟨k + 1, _, _, rfl, rfl, ?_, ?_, hs⟩, EnvB.of rfl⟩
    · omega
    · omega
    · rw [e]; exact ha2
  · obtain rfl : k = G.length := by omega
    rw [List.take_of_length_le (by omega)] at ha
    repeat' (first
      | (refine K_ops ?_; first
        | refine W_fastB rfl ?_
        | refine W_nil ?_
        | (refine W_lenL rfl (by first | assumption | exact SlR.ln (by assumption) | exact AccS.ln (by assumption) | exact OwnS.ln (by assumption) | exact VwO.ln (by assumption) | exact OwnP.ln (by assumption) | exact Len.sl) ?_; refine W_norm rfl ?_)
      )
      | (refine K_code ?_; first
        | refine W_seq ?_
        | refine W_ops ?_
        | (refine W_cond rfl (fun hc => ?_) (fun hc => ?_) <;> (try rw [hc]) <;> (try simp only [decide_eq_true_eq, decide_eq_false_iff_not, beq_iff_eq, beq_eq_false_iff_ne, bne_iff_ne, bne_eq_false_iff_eq, Bool.not_eq_true', Bool.not_eq_false', Int.not_lt, Int.not_le, ne_eq, reduceCtorEq, not_true_eq_false, not_false_eq_true, Decidable.not_not] at hc) <;> (try (exfalso; omega)) <;> (try refine W_norm rfl ?_))
        | refine W_ret ?_
        | refine W_exit ?_
      )
      | refine seqK_n ?_
      | refine seqK_x ?_
      | refine blockK_e ?_
      | refine invK_x ?_
      | (refine fnK_r rfl ?_; try dsimp only [gd_z, gd_s]))
    exact ⟨_, rfl, _, _, rfl, ha, hs⟩
theorem w25 {v : SV} {G : List LnC} {n : Int} {h : Heap} (hv : LnsR (Now h) v G) (hok : okB (G.map lnOf) n) :
    Wc DD 25 [.sc v, i64 n] h fun w h' => ∃ id, w = .sc (.ptr id 0) ∧ Sep (Now h) [rvO id v (newV (G.map lnOf) n)] h' := by
  have hs := Sep.entry h
  have hln := hv.ln
  obtain ⟨h1, h2, h3, h4, _⟩ := id hok
  have hml : (G.map lnOf).length = G.length := List.length_map ..
  have e : newV (G.map lnOf) n = ⟨G.map lnOf, n, max ((G.length : Int) - n) 0, 0, (G.length : Int) - 1, none⟩ := by unfold newV; rw [hml]
  rw [e]
  refine W_enter d25 ?_
  show W _ (.code m25_code [.sc v, i64 n, undefA, undefA, undefA, undefA, undefA, undefA, undefA, undefA, undefA, undefA, undefA, undefA, undefA, undefA, undefA, undefA, undefA, undefA, undefA, undefA, undefA, undefA, undefA] _) _
  unfold m25_code
  repeat' (first
    | (refine K_ops ?_; first
      | refine W_fastB rfl ?_
      | refine W_nil ?_
      | (refine W_lenL rfl (by first | assumption | exact SlR.ln (by assumption) | exact AccS.ln (by assumption) | exact OwnS.ln (by assumption) | exact VwO.ln (by assumption) | exact OwnP.ln (by assumption) | exact Len.sl) ?_; refine W_norm rfl ?_)
      | (refine K_bin ?_; first
        | (refine W_sub rfl rfl (IntWalk.i64_in _ (by first | omega | (simp only [List.length_set, List.length_append, List.length_take, List.length_drop, List.length_replicate, List.length_cons, List.length_nil, decs_length, List.length_map]; omega))) ?_; refine W_norm rfl ?_)
      )
      | (refine K_store ?_; first
        | (refine W_storeC hs 0 rfl rfl rfl rfl (by first | decide | assumption) rfl rfl ?_; clear hs; intro _ hs; try simp only [cell_back, attr_back, List.set_cons_zero, List.set_cons_succ, List.eraseIdx_cons_succ, List.eraseIdx_zero, List.tail_cons, List.nil_append, List.cons_append] at hs; refine W_norm rfl ?_)
      )
      | (refine W_boxS hs rfl rfl ?_; clear hs; intro bx _ hs; try simp only [cell_back, attr_back, List.set_cons_zero, List.set_cons_succ, List.eraseIdx_cons_succ, List.eraseIdx_zero, List.tail_cons, List.nil_append, List.cons_append] at hs; refine W_norm rfl ?_)
      | (refine W_buildN rfl ?_; refine W_norm rfl ?_)
    )
    | (refine K_code ?_; first
      | refine W_seq ?_
      | refine W_ops ?_
      | (refine W_cond rfl (fun hc => ?_) (fun hc => ?_) <;> (try rw [hc]) <;> (try simp only [decide_eq_true_eq, decide_eq_false_iff_not, beq_iff_eq, beq_eq_false_iff_ne, bne_iff_ne, bne_eq_false_iff_eq, Bool.not_eq_true', Bool.not_eq_false', Int.not_lt, Int.not_le, ne_eq, reduceCtorEq, not_true_eq_false, not_false_eq_true, Decidable.not_not] at hc) <;> (try (exfalso; omega)) <;> (try refine W_norm rfl ?_))
      | refine W_skip ?_
      | refine W_ret ?_
    )
    | refine seqK_n ?_
    | (refine fnK_r rfl ?_; try dsimp only [gd_z, gd_s]))
  · rw [show max ((G.length : Int) - n) 0 = (G.length : Int) - n by omega]
    exact ⟨_, rfl, _, rfl, hs⟩
  · rw [show max ((G.length : Int) - n) 0 = 0 by omega]
    exact ⟨_, rfl, _, rfl, hs⟩
theorem w29 {u v : SV} {A B : List LnC} {h : Heap} (hu : LnsR (Now h) u A) (hv : LnsR (Now h) v B) (hlA : A.length ≤ 100000) (hlB : B.length ≤ 100000) (h2A : ∀ g ∈ A, g.2.length ≤ 100000) (h2B : ∀ g ∈ B, g.2.length ≤ 100000) (hAB : A.map lnOf = B.map lnOf) :
    Wc DD 29 [.sc u, .sc v] h fun w h' => w = bo true ∧ h' = h := by
  have hs := Sep.entry h
  have hun := hu.ln
  have hvn := hv.ln
  have hu1 := hu.1
  have hv1 := hv.1
  have hlen : A.length = B.length := by have := congrArg List.length hAB; simpa using this
  refine W_enter d29 ?_
  show W _ (.code m29_code [.sc u, .sc v, undefA, undefA, undefA, undefA, undefA, undefA, undefA, undefA, undefA, undefA, undefA, undefA, undefA, undefA, undefA, undefA, undefA, undefA, undefA, undefA, undefA, undefA, undefA, undefA, undefA, undefA, undefA, undefA, undefA, undefA, undefA, undefA, undefA, undefA, undefA, undefA, undefA, undefA, undefA, undefA, undefA, undefA, undefA, undefA, undefA, undefA, undefA, undefA, undefA, undefA, undefA, undefA, undefA] _) _
  unfold m29_code
  repeat' (first
    | (refine K_ops ?_; first
      | refine W_fastB rfl ?_
      | refine W_nil ?_
      | (refine W_lenL rfl (by first | assumption | exact SlR.ln (by assumption) | exact AccS.ln (by assumption) | exact OwnS.ln (by assumption) | exact VwO.ln (by assumption) | exact OwnP.ln (by assumption) | exact Len.sl) ?_; refine W_norm rfl ?_)
    )
    | (refine K_code ?_; first
      | refine W_seq ?_
      | refine W_ops ?_
      | (refine W_cond rfl (fun hc => ?_) (fun hc => ?_) <;> (try rw [hc]) <;> (try simp only [decide_eq_true_eq, decide_eq_false_iff_not, beq_iff_eq, beq_eq_false_iff_ne, bne_iff_ne, bne_eq_false_iff_eq, Bool.not_eq_true', Bool.not_eq_false', Int.not_lt, Int.not_le, ne_eq, reduceCtorEq, not_true_eq_false, not_false_eq_true, Decidable.not_not] at hc) <;> (try (exfalso; omega)) <;> (try refine W_norm rfl ?_))
      | refine W_skip ?_
      | refine W_block ?_
    )
    | refine seqK_n ?_)
  refine W_loopB [4, 5, 11, 12, 13, 14, 15, 16, 17, 18, 19, 20, 21, 22, 23, 24, 25, 26, 27, 28, 29, 30, 31, 32, 33, 34, 35, 36, 37, 38, 39, 40, 41, 42, 43, 44, 45, 46, 47, 48, 49, 50, 51, 52, 53, 54] [0, 1, 2, 3, 4, 5, 6, 7, 8, 9, 10, 11, 12, 13, 14, 15, 16, 17, 18, 19, 20, 21, 22, 23, 24, 25, 26, 27, 28, 29, 30, 31, 32, 33, 34, 35, 36, 37, 38, 39, 40, 41, 42, 43, 44, 45, 46, 47, 48, 49, 50, 51, 52, 53, 54] (fun n' sl h' => ∃ (k : Nat), sl = [(5, .sc (.int .i64 (k : Int)))] ∧ n' = A.length - k ∧ k ≤ A.length ∧ h' = h) ?_ ?_
  · refine ⟨_, _, ⟨0, rfl, rfl, Nat.zero_le _, rfl⟩, EnvB.of rfl⟩
  rintro _ _ us _ h2 ⟨k, rfl, rfl, hk, rfl⟩ he
  refine W_spell he rfl ?_
  clear he
  unfold m29_l4
  by_cases hlt : k < A.length
  · have hlt' : k < B.length := by omega
    have ra := hu.at hlt
    have rb := hv.at hlt'
    have la := atC_len h2A hlt
    have lb := atC_len h2B hlt'
    have he := lnOf_atH hlt
    rw [hAB, lnOf_atH hlt'] at he
    have he' := Option.some.inj he
    simp only [Ln.mk.injEq] at he'
    obtain ⟨e1, e2, e3⟩ := he'
    repeat' (first
      | (refine K_ops ?_; first
        | refine W_fastB rfl ?_
        | refine W_nil ?_
        | (refine K_guard ?_; first
          | refine W_guard_on rfl ?_
          | refine W_guard_off rfl rfl (W_norm rfl ?_)
          | (refine W_guardF rfl (fun hc => ?_) (fun hc => ?_) <;> (try rw [hc]) <;> (try simp only [decide_eq_true_eq, decide_eq_false_iff_not, beq_iff_eq, beq_eq_false_iff_ne, bne_iff_ne, bne_eq_false_iff_eq, Bool.not_eq_true', Bool.not_eq_false', Int.not_lt, Int.not_le, ne_eq, reduceCtorEq, not_true_eq_false, not_false_eq_true, Decidable.not_not] at hc) <;> (try (exfalso; omega)) <;> (try refine W_norm rfl ?_))
        )
        | (refine K_call ?_; first
          | (refine W_callsN 45 rfl (w45 (SlR.now hs ra) (SlR.now hs rb) la lb) rfl ?_; rintro _ _ ⟨rfl, rfl⟩; rw [decide_eq_true e1.symm]; refine W_norm rfl ?_)
        )
        | (refine W_lenL rfl (by first | assumption | exact SlR.ln (by assumption) | exact AccS.ln (by assumption) | exact OwnS.ln (by assumption) | exact VwO.ln (by assumption) | exact OwnP.ln (by assumption) | exact Len.sl) ?_; refine W_norm rfl ?_)
        | (refine K_bin ?_; first
          | (refine W_add rfl rfl (IntWalk.i64_in _ (by first | omega | (simp only [List.length_set, List.length_append, List.length_take, List.length_drop, List.length_replicate, List.length_cons, List.length_nil, decs_length, List.length_map]; omega))) ?_; refine W_norm rfl ?_)
        )
        | (refine K_pick ?_; first
          | refine W_pick_t rfl rfl (W_norm rfl ?_)
          | refine W_pick_f rfl rfl (W_norm rfl ?_)
        )
        | (refine K_index ?_; first
          | (refine W_indexR rfl rfl (by assumption) rfl ⟨(by first | omega | (simp only [List.length_set, List.length_append, List.length_take, List.length_drop, List.length_replicate, List.length_cons, List.length_nil, decs_length, List.length_map]; omega)), (by first | omega | (simp only [List.length_set, List.length_append, List.length_take, List.length_drop, List.length_replicate, List.length_cons, List.length_nil, decs_length, List.length_map]; omega))⟩ ?_; intro _ _ _; refine W_norm rfl ?_)
        )
        | (refine K_load ?_; first
          | (refine W_loadR hs rfl (by assumption) rfl ?_; refine W_norm rfl ?_)
          | (refine W_loadRF hs rfl (by assumption) rfl ?_; refine W_norm rfl ?_)
        )
      )
      | (refine K_code ?_; first
        | refine W_seq ?_
        | refine W_ops ?_
        | refine W_cond_t rfl ?_
        | refine W_cond_f rfl ?_
        | (refine W_cond rfl (fun hc => ?_) (fun hc => ?_) <;> (try rw [hc]) <;> (try simp only [decide_eq_true_eq, decide_eq_false_iff_not, beq_iff_eq, beq_eq_false_iff_ne, bne_iff_ne, bne_eq_false_iff_eq, Bool.not_eq_true', Bool.not_eq_false', Int.not_lt, Int.not_le, ne_eq, reduceCtorEq, not_true_eq_false, not_false_eq_true, Decidable.not_not] at hc) <;> (try (exfalso; omega)) <;> (try refine W_norm rfl ?_))
        | refine W_skip ?_
        | refine W_ret ?_
        | refine W_block ?_
        | refine W_draw rfl ?_
      )
      | refine seqK_n ?_
      | refine seqK_r ?_
      | refine blockK_r ?_
      | refine blockK_n ?_
      | refine invK_r ?_
      | refine invK_n ?_
      | (refine fnK_r rfl ?_; try dsimp only [gd_z, gd_s]))
    all_goals first | exact absurd e2.symm (by assumption) | exact absurd e3.symm (by assumption) | skip
    refine ⟨_, ?_, _, ⟨k + 1, rfl, rfl, ?_, rfl⟩, EnvB.of rfl⟩
    · omega
    · omega
  · repeat' (first
      | (refine K_ops ?_; first
        | refine W_fastB rfl ?_
        | refine W_nil ?_
        | (refine W_lenL rfl (by first | assumption | exact SlR.ln (by assumption) | exact AccS.ln (by assumption) | exact OwnS.ln (by assumption) | exact VwO.ln (by assumption) | exact OwnP.ln (by assumption) | exact Len.sl) ?_; refine W_norm rfl ?_)
      )
      | (refine K_code ?_; first
        | refine W_seq ?_
        | refine W_ops ?_
        | (refine W_cond rfl (fun hc => ?_) (fun hc => ?_) <;> (try rw [hc]) <;> (try simp only [decide_eq_true_eq, decide_eq_false_iff_not, beq_iff_eq, beq_eq_false_iff_ne, bne_iff_ne, bne_eq_false_iff_eq, Bool.not_eq_true', Bool.not_eq_false', Int.not_lt, Int.not_le, ne_eq, reduceCtorEq, not_true_eq_false, not_false_eq_true, Decidable.not_not] at hc) <;> (try (exfalso; omega)) <;> (try refine W_norm rfl ?_))
        | refine W_ret ?_
        | refine W_exit ?_
      )
      | refine seqK_n ?_
      | refine seqK_x ?_
      | refine blockK_e ?_
      | refine invK_x ?_
      | (refine fnK_r rfl ?_; try dsimp only [gd_z, gd_s]))
    exact ⟨_, rfl, rfl, rfl⟩
/-- One act, on both views. -/
theorem w26 {R : Ro} {M : List Hp} {h : Heap} {id idr : Nat} {lv mk lr : SV} {v : Vw} {G Gr : List LnC} {a : ActV} (hs : Sep R (rvO idr lr v :: vwO id lv mk v :: M) h) (hG : VwR R lv mk v G) (hR : LnsR R lr Gr) (hm : Gr.map lnOf = v.L) (ok : OkV v) (ha : okA a) :
    Wc DD 26 [.sc (.ptr id 0), .sc (.ptr idr 0), .agg (actE.enc a)] h fun w h' => w = bo true ∧ ∃ R' mk', R.le R' ∧ VwR R' lv mk' (actV v a) G ∧ Sep R' (rvO idr lr (actV v a) :: vwO id lv mk' (actV v a) :: M) h' := by
  obtain ⟨ax, ay, al⟩ := ha
  have hmv : G.map lnOf = v.L := hG.map
  obtain ⟨v', c, hf⟩ : ∃ v' c, findR v a.t (decide (a.x < 0)) = (v', c) := ⟨_, _, rfl⟩
  have hA : ¬ (1 ≤ a.t.length ∧ a.t.length ≤ 32) → v' = v ∧ c = 1 := fun hh => by
    unfold findR at hf; rw [if_neg hh] at hf; cases hf; exact ⟨rfl, rfl⟩
  have hB : (1 ≤ a.t.length ∧ a.t.length ≤ 32) → (findV v a.t (decide (a.x < 0))).isSome = true → (findV v a.t (decide (a.x < 0))).getD v = v' ∧ c = 0 := fun hh h2 => by
    unfold findR at hf; rw [if_pos hh] at hf
    cases e : findV v a.t (decide (a.x < 0)) with
    | none => rw [e] at h2; cases h2
    | some w => rw [e] at hf; cases hf; exact ⟨rfl, rfl⟩
  have hC : (1 ≤ a.t.length ∧ a.t.length ≤ 32) → (findV v a.t (decide (a.x < 0))).isSome = false → (findV v a.t (decide (a.x < 0))).getD v = v' ∧ c = 4 := fun hh h2 => by
    unfold findR at hf; rw [if_pos hh] at hf
    cases e : findV v a.t (decide (a.x < 0)) with
    | some w => rw [e] at h2; cases h2
    | none => rw [e] at hf; cases hf; exact ⟨rfl, rfl⟩
  refine W_enter d26 ?_
  show W _ (.code m26_code [.sc (.ptr id 0), .sc (.ptr idr 0), .agg (actE.enc a), undefA, undefA, undefA, undefA, undefA, undefA, undefA, undefA, undefA, undefA, undefA, undefA, undefA, undefA, undefA, undefA, undefA, undefA, undefA, undefA, undefA, undefA, undefA, undefA, undefA, undefA, undefA, undefA, undefA, undefA, undefA, undefA, undefA, undefA, undefA, undefA, undefA, undefA, undefA, undefA, undefA, undefA, undefA, undefA, undefA, undefA, undefA, undefA, undefA, undefA, undefA, undefA, undefA, undefA, undefA, undefA, undefA, undefA, undefA, undefA, undefA, undefA, undefA, undefA, undefA, undefA, undefA, undefA, undefA, undefA, undefA, undefA, undefA, undefA, undefA, undefA, undefA, undefA, undefA, undefA, undefA, undefA, undefA, undefA, undefA, undefA, undefA, undefA, undefA, undefA, undefA, undefA, undefA, undefA, undefA, undefA, undefA, undefA, undefA, undefA, undefA] _) _
  unfold m26_code
  repeat' (first
    | (refine K_ops ?_; first
      | refine W_fastB rfl ?_
      | refine W_nil ?_
      | (refine K_guard ?_; first
        | refine W_guard_on rfl ?_
        | refine W_guard_off rfl rfl (W_norm rfl ?_)
        | (refine W_guardF rfl (fun hc => ?_) (fun hc => ?_) <;> (try rw [hc]) <;> (try simp only [decide_eq_true_eq, decide_eq_false_iff_not, beq_iff_eq, beq_eq_false_iff_ne, bne_iff_ne, bne_eq_false_iff_eq, Bool.not_eq_true', Bool.not_eq_false', Int.not_lt, Int.not_le, ne_eq, reduceCtorEq, not_true_eq_false, not_false_eq_true, Decidable.not_not] at hc) <;> (try (exfalso; omega)) <;> (try refine W_norm rfl ?_))
      )
      | (refine K_call ?_; first
        | (refine W_callsN 12 rfl (w12 (v := v) (id := id) (x := a.x) (y := a.y) (hs.front 2 rfl) hG ok ax ay) rfl ?_; rintro _ hX ⟨rfl, hs⟩; (try simp only [List.eraseIdx_cons_succ, List.eraseIdx_cons_zero, List.eraseIdx_zero, List.tail_cons] at hs); refine W_norm rfl ?_)
        | (refine W_callsN 41 rfl (w41 (v := v) (id := idr) (hs.front 2 rfl) hR hm ok ax ay) rfl ?_; rintro _ hX ⟨rfl, hs⟩; (try simp only [List.eraseIdx_cons_succ, List.eraseIdx_cons_zero, List.eraseIdx_zero, List.tail_cons] at hs); refine W_norm rfl ?_)
        | (refine W_callsN 19 rfl (w19 (v := v) (id := id) (x := a.x) (y := a.y) (hs.front 2 rfl) hG ok) rfl ?_; rintro _ hX ⟨rfl, hs⟩; (try simp only [List.eraseIdx_cons_succ, List.eraseIdx_cons_zero, List.eraseIdx_zero, List.tail_cons] at hs); refine W_norm rfl ?_)
        | (refine W_callsN 42 rfl (w42 (v := v) (id := idr) (hs.front 2 rfl) hR hm ok) rfl ?_; rintro _ hX ⟨rfl, hs⟩; (try simp only [List.eraseIdx_cons_succ, List.eraseIdx_cons_zero, List.eraseIdx_zero, List.tail_cons] at hs); refine W_norm rfl ?_)
        | (refine W_callsN 15 rfl (w15 (v := v) (id := id) (hs.front 2 rfl) hG.ln ok.l.len) rfl ?_; rintro _ hX ⟨rfl, ma, ca, hs⟩; replace hs := hs.freeze 0 rfl; (try simp only [List.eraseIdx_cons_succ, List.eraseIdx_cons_zero, List.eraseIdx_zero, List.tail_cons] at hs); refine W_norm rfl ?_)
        | (refine W_callsN 17 rfl (w17 (v := v) (id := id) (hs.front 2 rfl)) rfl ?_; rintro _ hX ⟨rfl, hs⟩; (try simp only [List.eraseIdx_cons_succ, List.eraseIdx_cons_zero, List.eraseIdx_zero, List.tail_cons] at hs); refine W_norm rfl ?_)
        | (refine W_callsN 13 rfl (w13g (v := v) (id := id) (back := decide (a.x < 0)) (hs.front 2 rfl) hG ok al hf) rfl ?_; rintro _ hX ⟨rfl, hs⟩; (try simp only [List.eraseIdx_cons_succ, List.eraseIdx_cons_zero, List.eraseIdx_zero, List.tail_cons] at hs); refine W_norm rfl ?_)
        | (refine W_callsN 43 rfl (w43 (v := v) (id := idr) (back := decide (a.x < 0)) (hs.front 2 rfl) hR hm ok (by omega)) rfl ?_; rintro _ hX ⟨rfl, hs⟩; (try simp only [List.eraseIdx_cons_succ, List.eraseIdx_cons_zero, List.eraseIdx_zero, List.tail_cons] at hs); refine W_norm rfl ?_)
      )
      | (refine K_pick ?_; first
        | refine W_pick_t rfl rfl (W_norm rfl ?_)
        | refine W_pick_f rfl rfl (W_norm rfl ?_)
      )
      | (refine K_load ?_; first
        | (refine W_loadC hs 0 rfl rfl rfl ?_; refine W_norm rfl ?_)
        | (refine W_loadC hs 1 rfl rfl rfl ?_; refine W_norm rfl ?_)
        | (refine W_loadC hs 2 rfl rfl rfl ?_; refine W_norm rfl ?_)
      )
      | (refine K_store ?_; first
        | (refine W_storeC hs 2 rfl rfl rfl rfl (by first | decide | assumption) rfl rfl ?_; clear hs; intro _ hs; try simp only [cell_back, attr_back, List.set_cons_zero, List.set_cons_succ, List.eraseIdx_cons_succ, List.eraseIdx_zero, List.tail_cons, List.nil_append, List.cons_append] at hs; refine W_norm rfl ?_)
      )
      | (refine W_boxS hs rfl rfl ?_; clear hs; intro bx _ hs; try simp only [cell_back, attr_back, List.set_cons_zero, List.set_cons_succ, List.eraseIdx_cons_succ, List.eraseIdx_zero, List.tail_cons, List.nil_append, List.cons_append] at hs; refine W_norm rfl ?_)
    )
    | (refine K_code ?_; first
      | refine W_seq ?_
      | refine W_ops ?_
      | refine W_cond_t rfl ?_
      | (refine W_cond rfl (fun hc => ?_) (fun hc => ?_) <;> (try rw [hc]) <;> (try simp only [decide_eq_true_eq, decide_eq_false_iff_not, beq_iff_eq, beq_eq_false_iff_ne, bne_iff_ne, bne_eq_false_iff_eq, Bool.not_eq_true', Bool.not_eq_false', Int.not_lt, Int.not_le, ne_eq, reduceCtorEq, not_true_eq_false, not_false_eq_true, Decidable.not_not] at hc) <;> (try (exfalso; omega)) <;> (try refine W_norm rfl ?_))
      | refine W_skip ?_
      | refine W_ret ?_
      | refine W_block ?_
    )
    | refine seqK_n ?_
    | refine seqK_r ?_
    | refine blockK_r ?_
    | refine blockK_n ?_
    | (refine fnK_r rfl ?_; try dsimp only [gd_z, gd_s]))
  · rw [actV0 (by assumption)]
    exact ⟨_, rfl, rfl, R, mk, fun _ _ k => k, hG.toV _ _, hs.drop 2⟩
  · rw [actV1 (by assumption)]
    exact ⟨_, rfl, rfl, R, mk, fun _ _ k => k, hG.toV _ _, hs.drop 2⟩
  · rw [actV2 (by assumption)]
    exact ⟨_, rfl, rfl, _, _, Ro.le_add _ _, hG.mark, (hs.front 2 rfl).drop 2⟩
  · rw [actV3 (by assumption)]
    exact ⟨_, rfl, rfl, R, _, fun _ _ k => k, hG.clear, (hs.front 2 rfl).drop 2⟩
  · obtain ⟨rfl, rfl⟩ := hA (by omega)
    rw [actV4 (by assumption), hf]
    exact ⟨_, rfl, rfl, R, mk, fun _ _ k => k, hG, (hs.front 2 rfl).drop 2⟩
  · obtain ⟨e1, rfl⟩ := hB (by omega) (by assumption)
    have hv' : VwR R lv mk v' G := by have := hG.find a.t (decide (a.x < 0)); rw [hf] at this; exact this
    rw [actV4 (by assumption), hf]
    rw [e1] at hs
    exact ⟨_, rfl, rfl, R, mk, fun _ _ k => k, hv', hs.drop 2⟩
  · obtain ⟨e1, rfl⟩ := hC (by omega) (by assumption)
    have hv' : VwR R lv mk v' G := by have := hG.find a.t (decide (a.x < 0)); rw [hf] at this; exact this
    rw [actV4 (by assumption), hf]
    rw [e1] at hs
    exact ⟨_, rfl, rfl, R, mk, fun _ _ k => k, hv', hs.drop 2⟩
  · obtain ⟨rfl, rfl⟩ := hA (by omega)
    rw [actV4 (by assumption), hf]
    exact ⟨_, rfl, rfl, R, mk, fun _ _ k => k, hG, (hs.front 2 rfl).drop 2⟩
  · rw [actV5 (by assumption) (by assumption) (by assumption) (by assumption) (by assumption)]
    exact ⟨_, rfl, rfl, R, mk, fun _ _ k => k, hG, (hs.front 1 rfl).drop 1 |>.perm (by simp [List.perm_append_comm_assoc])⟩
end Go.Proofs.YtbkhjpclnfljbaaDoor
/- The law CopyPlays: what is compared. -/
set_option linter.unusedSimpArgs false
set_option linter.unusedVariables false
set_option maxHeartbeats 1000000
set_option maxRecDepth 100000
namespace Go.Proofs.YtbkhjpclnfljbaaDoor
open Go Go.Jx

theorem w6_a {R : Ro} {M : List Hp} {h : Heap} {e : List AV} {id idr : Nat} {lv mk lr : SV} {v : Vw} {G Gr : List LnC} (he : EnvIs 163 [(7, .sc (.ptr id 0)), (9, .sc (.ptr idr 0)), (11, i64 v.x), (12, i64 v.y), (13, i64 (v.m.getD (0, 0)).1), (14, i64 (v.m.getD (0, 0)).2), (15, .sc (.bool v.m.isSome))] e) (hs : Sep R (rvO idr lr v :: vwO id lv mk v :: M) h) (hG : VwR R lv mk v G) (hR : LnsR R lr Gr) (hm : Gr.map lnOf = v.L) (ok : OkV v) :
    W DD (.code (.draw m6_r16) e h) (fun x e' h' => x = .normal ∧ ∃ sl, (sl = [(132, .sc (.bool false))] ∧ Sep R (rvO idr lr v :: vwO id lv mk v :: M) h') ∧ EnvB e [79, 80, 81, 82, 83, 84, 85, 86, 87, 88, 89, 90, 91, 92, 93, 94, 95, 96, 97, 98, 99, 100, 101, 102, 103, 104, 105, 106, 107, 108, 109, 110, 111, 112, 113, 114, 115, 116, 117, 118, 119, 120, 121, 122, 123, 124, 125, 126, 127, 128, 129, 130, 131, 132] [0, 1, 2, 3, 4, 5, 6, 7, 8, 9, 10, 11, 12, 13, 14, 15, 16, 17, 18, 19, 20, 21, 22, 23, 24, 25, 26, 27, 28, 29, 30, 31, 32, 33, 34, 35, 36, 37, 38, 39, 40, 41, 42, 43, 44, 45, 46, 47, 48, 49, 50, 51, 52, 53, 54, 55, 56, 57, 58, 59, 60, 61, 62, 63, 64, 65, 66, 67, 68, 69, 70, 71, 72, 73, 74, 75, 76, 77, 78, 79, 80, 81, 82, 83, 84, 85, 86, 87, 88, 89, 90, 91, 92, 93, 94, 95, 96, 97, 98, 99, 100, 101, 102, 103, 104, 105, 106, 107, 108, 109, 110, 111, 112, 113, 114, 115, 116, 117, 118, 119, 120, 121, 122, 123, 124, 125, 126, 127, 128, 129, 130, 131, 132, 133, 134, 135, 136, 137, 138, 139, 140, 141, 142, 143, 144, 145, 146, 147, 148, 149, 150, 151, 152, 153, 154, 155, 156, 157, 158, 159, 160, 161, 162] sl e') := by
  obtain ⟨us, rfl⟩ := he.list
  rw [show mkE us [(7, .sc (.ptr id 0)), (9, .sc (.ptr idr 0)), (11, i64 v.x), (12, i64 v.y), (13, i64 (v.m.getD (0, 0)).1), (14, i64 (v.m.getD (0, 0)).2), (15, .sc (.bool v.m.isSome))] 0 163 = [us 0, us 1, us 2, us 3, us 4, us 5, us 6, .sc (.ptr id 0), us 8, .sc (.ptr idr 0), us 10, i64 v.x, i64 v.y, i64 (v.m.getD (0, 0)).1, i64 (v.m.getD (0, 0)).2, .sc (.bool v.m.isSome), us 16, us 17, us 18, us 19, us 20, us 21, us 22, us 23, us 24, us 25, us 26, us 27, us 28, us 29, us 30, us 31, us 32, us 33, us 34, us 35, us 36, us 37, us 38, us 39, us 40, us 41, us 42, us 43, us 44, us 45, us 46, us 47, us 48, us 49, us 50, us 51, us 52, us 53, us 54, us 55, us 56, us 57, us 58, us 59, us 60, us 61, us 62, us 63, us 64, us 65, us 66, us 67, us 68, us 69, us 70, us 71, us 72, us 73, us 74, us 75, us 76, us 77, us 78, us 79, us 80, us 81, us 82, us 83, us 84, us 85, us 86, us 87, us 88, us 89, us 90, us 91, us 92, us 93, us 94, us 95, us 96, us 97, us 98, us 99, us 100, us 101, us 102, us 103, us 104, us 105, us 106, us 107, us 108, us 109, us 110, us 111, us 112, us 113, us 114, us 115, us 116, us 117, us 118, us 119, us 120, us 121, us 122, us 123, us 124, us 125, us 126, us 127, us 128, us 129, us 130, us 131, us 132, us 133, us 134, us 135, us 136, us 137, us 138, us 139, us 140, us 141, us 142, us 143, us 144, us 145, us 146, us 147, us 148, us 149, us 150, us 151, us 152, us 153, us 154, us 155, us 156, us 157, us 158, us 159, us 160, us 161, us 162] from rfl]
  repeat' (first
    | (refine K_ops ?_; first
      | refine W_fastB rfl ?_
      | refine W_nil ?_
      | (refine K_guard ?_; first
        | refine W_guard_on rfl ?_
        | (refine W_guardF rfl (fun hc => ?_) (fun hc => ?_) <;> (try rw [hc]) <;> (try simp only [decide_eq_true_eq, decide_eq_false_iff_not, beq_iff_eq, beq_eq_false_iff_ne, bne_iff_ne, bne_eq_false_iff_eq, Bool.not_eq_true', Bool.not_eq_false', Int.not_lt, Int.not_le, ne_eq, reduceCtorEq, not_true_eq_false, not_false_eq_true, Decidable.not_not] at hc) <;> (try (exfalso; omega)) <;> (try refine W_norm rfl ?_))
      )
      | (refine K_call ?_; first
        | (refine W_callsN 20 rfl (w20 (hs.front 1 rfl) hG.ln ok.l.len) rfl ?_; rintro _ hX ⟨rfl, rfl⟩; refine W_norm rfl ?_)
        | (refine W_callsN 16 rfl (w16 (v := v) (id := id) (hs.front 1 rfl) hG ok) rfl ?_; rintro _ hX ⟨rfl, hs⟩; (try simp only [List.eraseIdx_cons_succ, List.eraseIdx_cons_zero, List.eraseIdx_zero, List.tail_cons] at hs); refine W_norm rfl ?_)
        | (refine W_callsN 28 rfl (w28 (v := v) (id := idr) (hs.front 1 rfl) hR hm ok) rfl ?_; rintro _ hX ⟨rfl, hs⟩; (try simp only [List.eraseIdx_cons_succ, List.eraseIdx_cons_zero, List.eraseIdx_zero, List.tail_cons] at hs); refine W_norm rfl ?_)
      )
      | (refine K_pick ?_; first
        | refine W_pick_f rfl rfl (W_norm rfl ?_)
      )
      | (refine K_load ?_; first
        | (refine W_loadC hs 0 rfl rfl rfl ?_; refine W_norm rfl ?_)
      )
    )
    | (refine K_code ?_; first
      | refine W_draws ?_
    )
    | refine W_dstep rfl ?_
    | refine ⟨rfl, fun rc hrec => ?_⟩
    | (refine W_dnilS (by simp only [List.reverse_cons, List.reverse_nil, List.nil_append, List.cons_append]; rfl) (by repeat' first | exact CL_nil _ _ | refine CL_skip rfl ?_ | refine CL_load (by assumption) rfl (by first | exact trivial | (repeat' first | exact trivial | refine ⟨⟨_, rfl, (by refine (congrArg (fun x => Heap.get x _) (RecIs.hh (by assumption))).trans ?_; first | rfl | exact PtR.same_get (by assumption) (by assumption) (by assumption) | exact Sep.same_get (by assumption) (by assumption) 0 0 rfl rfl | exact Sep.same_get (by assumption) (by assumption) 0 1 rfl rfl | exact Sep.same_get (by assumption) (by assumption) 0 2 rfl rfl | exact Sep.same_get (by assumption) (by assumption) 0 3 rfl rfl | exact Sep.same_get (by assumption) (by assumption) 1 0 rfl rfl | exact Sep.same_get (by assumption) (by assumption) 1 1 rfl rfl | exact Sep.same_get (by assumption) (by assumption) 1 2 rfl rfl | exact Sep.same_get (by assumption) (by assumption) 1 3 rfl rfl | exact Sep.same_get (by assumption) (by assumption) 2 0 rfl rfl | exact Sep.same_get (by assumption) (by assumption) 2 1 rfl rfl | exact Sep.same_get (by assumption) (by assumption) 2 2 rfl rfl | exact Sep.same_get (by assumption) (by assumption) 2 3 rfl rfl | exact Sep.same_get (by assumption) (by assumption) 3 0 rfl rfl | exact Sep.same_get (by assumption) (by assumption) 3 1 rfl rfl | exact Sep.same_get (by assumption) (by assumption) 3 2 rfl rfl | exact Sep.same_get (by assumption) (by assumption) 3 3 rfl rfl)⟩, ?_⟩)) (by first | exact trivial | (repeat' first | exact trivial | refine ⟨⟨_, rfl, (by refine (congrArg (fun x => Heap.get x _) (RecIs.hh' (by assumption))).trans ?_; first | rfl | exact PtR.same_get (by assumption) (by assumption) (by assumption) | exact Sep.same_get (by assumption) (by assumption) 0 0 rfl rfl | exact Sep.same_get (by assumption) (by assumption) 0 1 rfl rfl | exact Sep.same_get (by assumption) (by assumption) 0 2 rfl rfl | exact Sep.same_get (by assumption) (by assumption) 0 3 rfl rfl | exact Sep.same_get (by assumption) (by assumption) 1 0 rfl rfl | exact Sep.same_get (by assumption) (by assumption) 1 1 rfl rfl | exact Sep.same_get (by assumption) (by assumption) 1 2 rfl rfl | exact Sep.same_get (by assumption) (by assumption) 1 3 rfl rfl | exact Sep.same_get (by assumption) (by assumption) 2 0 rfl rfl | exact Sep.same_get (by assumption) (by assumption) 2 1 rfl rfl | exact Sep.same_get (by assumption) (by assumption) 2 2 rfl rfl | exact Sep.same_get (by assumption) (by assumption) 2 3 rfl rfl | exact Sep.same_get (by assumption) (by assumption) 3 0 rfl rfl | exact Sep.same_get (by assumption) (by assumption) 3 1 rfl rfl | exact Sep.same_get (by assumption) (by assumption) 3 2 rfl rfl | exact Sep.same_get (by assumption) (by assumption) 3 3 rfl rfl)⟩, ?_⟩)) ?_) ?_))
  all_goals first
    | exact ⟨rfl, _, ⟨rfl, hs⟩, EnvB.of rfl⟩
    | (refine ⟨rfl, _, ⟨rfl, hs⟩, atB ?_ (EnvB.of rfl)⟩
       simp)
theorem seenV_cut {v : Vw} {G : List LnC} (hm : G.map lnOf = v.L) : ((G.take (min (v.top + v.h) v.L.length).toNat).drop v.top.toNat).map lnOf = seenV v := by
  unfold seenV; rw [List.map_drop, List.map_take, hm]
theorem seenV_le (v : Vw) : (seenV v).length ≤ v.L.length := by
  unfold seenV; rw [List.length_drop, List.length_take]; omega
theorem w6_b {R : Ro} {M : List Hp} {h : Heap} {e : List AV} {id idr : Nat} {lv mk lr : SV} {v : Vw} {G Gr : List LnC} (he : EnvIs 163 [(7, .sc (.ptr id 0)), (9, .sc (.ptr idr 0))] e) (hs : Sep R (rvO idr lr v :: vwO id lv mk v :: M) h) (hG : VwR R lv mk v G) (hR : LnsR R lr Gr) (hm : Gr.map lnOf = v.L) (ok : OkV v) (hl : v.L.length ≤ 25) (hl2 : ∀ g ∈ Gr, g.2.length ≤ 30) :
    W DD (.code (.draw m6_r18) e h) (fun x e' h' => x = .normal ∧ ∃ sl, (sl = [(161, .sc (.bool false))] ∧ Sep R (rvO idr lr v :: vwO id lv mk v :: M) h') ∧ EnvB e [133, 134, 135, 136, 137, 138, 139, 140, 141, 142, 143, 144, 145, 146, 147, 148, 149, 150, 151, 152, 153, 154, 155, 156, 157, 158, 159, 160, 161] [0, 1, 2, 3, 4, 5, 6, 7, 8, 9, 10, 11, 12, 13, 14, 15, 16, 17, 18, 19, 20, 21, 22, 23, 24, 25, 26, 27, 28, 29, 30, 31, 32, 33, 34, 35, 36, 37, 38, 39, 40, 41, 42, 43, 44, 45, 46, 47, 48, 49, 50, 51, 52, 53, 54, 55, 56, 57, 58, 59, 60, 61, 62, 63, 64, 65, 66, 67, 68, 69, 70, 71, 72, 73, 74, 75, 76, 77, 78, 79, 80, 81, 82, 83, 84, 85, 86, 87, 88, 89, 90, 91, 92, 93, 94, 95, 96, 97, 98, 99, 100, 101, 102, 103, 104, 105, 106, 107, 108, 109, 110, 111, 112, 113, 114, 115, 116, 117, 118, 119, 120, 121, 122, 123, 124, 125, 126, 127, 128, 129, 130, 131, 132, 133, 134, 135, 136, 137, 138, 139, 140, 141, 142, 143, 144, 145, 146, 147, 148, 149, 150, 151, 152, 153, 154, 155, 156, 157, 158, 159, 160, 161, 162] sl e') := by
  have hlen : Gr.length = v.L.length := by rw [← hm, List.length_map]
  have hrl : Len lr v.L.length := by have := hR.ln; rwa [hlen] at this
  have hR1 := hR.1
  have hGl : (Gr.map Prod.fst).length = v.L.length := by rw [List.length_map]; exact hlen
  have ok1 := ok.l.len
  have ht := ok.t0
  have ht1 := ok.t1
  have hy1 := ok.y1
  have hh := ok.l.h1
  have hh2 := ok.l.h2
  have hsn : ∀ {G2 : List LnC}, ∀ g ∈ G2, G2.map lnOf = seenV v → g.2.length ≤ 30 := by
    intro G2 g hg he
    have h1 : lnOf g ∈ seenV v := by rw [← he]; exact List.mem_map_of_mem hg
    rw [← seenV_cut hm] at h1
    obtain ⟨g', h2, h3⟩ := List.mem_map.1 h1
    have h4 := hl2 g' (List.mem_of_mem_take (List.mem_of_mem_drop h2))
    have h5 := congrArg (fun l : Ln => l.cells.length) h3
    simp only [lnOf] at h5
    omega
  obtain ⟨us, rfl⟩ := he.list
  rw [show mkE us [(7, .sc (.ptr id 0)), (9, .sc (.ptr idr 0))] 0 163 = [us 0, us 1, us 2, us 3, us 4, us 5, us 6, .sc (.ptr id 0), us 8, .sc (.ptr idr 0), us 10, us 11, us 12, us 13, us 14, us 15, us 16, us 17, us 18, us 19, us 20, us 21, us 22, us 23, us 24, us 25, us 26, us 27, us 28, us 29, us 30, us 31, us 32, us 33, us 34, us 35, us 36, us 37, us 38, us 39, us 40, us 41, us 42, us 43, us 44, us 45, us 46, us 47, us 48, us 49, us 50, us 51, us 52, us 53, us 54, us 55, us 56, us 57, us 58, us 59, us 60, us 61, us 62, us 63, us 64, us 65, us 66, us 67, us 68, us 69, us 70, us 71, us 72, us 73, us 74, us 75, us 76, us 77, us 78, us 79, us 80, us 81, us 82, us 83, us 84, us 85, us 86, us 87, us 88, us 89, us 90, us 91, us 92, us 93, us 94, us 95, us 96, us 97, us 98, us 99, us 100, us 101, us 102, us 103, us 104, us 105, us 106, us 107, us 108, us 109, us 110, us 111, us 112, us 113, us 114, us 115, us 116, us 117, us 118, us 119, us 120, us 121, us 122, us 123, us 124, us 125, us 126, us 127, us 128, us 129, us 130, us 131, us 132, us 133, us 134, us 135, us 136, us 137, us 138, us 139, us 140, us 141, us 142, us 143, us 144, us 145, us 146, us 147, us 148, us 149, us 150, us 151, us 152, us 153, us 154, us 155, us 156, us 157, us 158, us 159, us 160, us 161, us 162] from rfl]
  repeat' (first
    | (refine K_ops ?_; first
      | refine W_fastB rfl ?_
      | refine W_nil ?_
      | (refine K_call ?_; first
        | (refine W_callsN 22 rfl (w22 (v := v) (id := id) (hs.front 1 rfl) hG ok) rfl ?_; rintro _ hX ⟨u, c, X, rfl, hU, hO, hs⟩; (try simp only [List.eraseIdx_cons_succ, List.eraseIdx_cons_zero, List.eraseIdx_zero, List.tail_cons] at hs); refine W_norm rfl ?_)
      )
    )
    | (refine K_code ?_; first
      | refine W_draws ?_
    )
    | refine W_dstep rfl ?_
    | refine ⟨rfl, fun rc hrec => ?_⟩
    | fail)
  obtain ⟨G2, g1, g2, _⟩ := OwnX.lns (R := InP (c ++ (X.map Prod.snd).flatten)) hU hO (fun p hp => hp)
  replace hs : Sep R ((c ++ (X.map Prod.snd).flatten) :: vwO id lv mk v :: rvO idr lr v :: M) hX := hs.sublist (by simp)
  obtain ⟨k, hk⟩ : ∃ k, k = c ++ (X.map Prod.snd).flatten := ⟨_, rfl⟩
  rw [← hk] at hs g1
  clear hk hU hO
  replace hs := hs.freeze 0 rfl
  (try simp only [List.eraseIdx_cons_succ, List.eraseIdx_cons_zero, List.eraseIdx_zero, List.tail_cons] at hs)
  replace g1 := g1.mono (InP.add R k)
  have hg2 : G2.length ≤ 25 := by
    rw [← List.length_map (f := lnOf), g2]
    exact Nat.le_trans (seenV_le v) hl
  replace hR := hR.mono (Ro.le_add R k)
  have hR1 := hR.1
  repeat' (first
    | (refine K_ops ?_; first
      | refine W_fastB rfl ?_
      | refine W_nil ?_
      | (refine K_call ?_; first
        | (refine W_callsN 24 rfl (w24 (G := G2) (v := u) (g1.now hs) (by omega)) rfl ?_; rintro _ hX ⟨u3, c3, rfl, ha3, t⟩; have hs := hs.call t; try simp only [cell_back, attr_back, List.set_cons_zero, List.set_cons_succ, List.eraseIdx_cons_succ, List.eraseIdx_zero, List.tail_cons, List.nil_append, List.cons_append] at hs; refine W_norm rfl ?_)
        | (refine W_callsN 29 rfl (w29 (u := u3) (A := G2) (B := (Gr.take (min (v.top + v.h) v.L.length).toNat).drop v.top.toNat) ⟨(AccS.inPl ha3).mono (InP.now hs (by simp)), fun g hg => (g1.2 g hg).mono hs.le⟩ ((LnsR.cut (by assumption) hR).now hs) (by omega) (by simp; omega) (fun g hg => by have := hsn g hg g2; omega) (fun g hg => Nat.le_trans (hl2 g (List.mem_of_mem_take (List.mem_of_mem_drop hg))) (by omega)) (by rw [seenV_cut hm, g2])) rfl ?_; rintro _ hX ⟨rfl, rfl⟩; refine W_norm rfl ?_)
      )
      | (refine W_lenL rfl (by first | assumption | exact SlR.ln (by assumption) | exact AccS.ln (by assumption) | exact OwnS.ln (by assumption) | exact VwO.ln (by assumption) | exact OwnP.ln (by assumption) | exact Len.sl) ?_; refine W_norm rfl ?_)
      | (refine K_bin ?_; first
        | (refine W_add rfl rfl (IntWalk.i64_in _ (by first | omega | (simp only [List.length_set, List.length_append, List.length_take, List.length_drop, List.length_replicate, List.length_cons, List.length_nil, decs_length, List.length_map]; omega))) ?_; refine W_norm rfl ?_)
      )
      | (refine K_load ?_; first
        | (refine W_loadC hs 2 rfl rfl rfl ?_; refine W_norm rfl ?_)
      )
      | (refine K_slice ?_; first
        | (refine W_sliceR rfl rfl rfl (by assumption) rfl ⟨(by first | omega | (simp only [List.length_set, List.length_append, List.length_take, List.length_drop, List.length_replicate, List.length_cons, List.length_nil, decs_length, List.length_map]; omega)), (by first | omega | (simp only [List.length_set, List.length_append, List.length_take, List.length_drop, List.length_replicate, List.length_cons, List.length_nil, decs_length, List.length_map]; omega)), (by first | omega | (simp only [List.length_set, List.length_append, List.length_take, List.length_drop, List.length_replicate, List.length_cons, List.length_nil, decs_length, List.length_map]; omega))⟩ ?_; intro _ _; refine W_norm rfl ?_)
      )
      | (refine W_min2 rfl rfl ?_; refine W_norm rfl ?_)
    )
    | refine W_dstep rfl ?_
    | refine ⟨rfl, fun rc hrec => ?_⟩
    | (refine W_dnilS (by simp only [List.reverse_cons, List.reverse_nil, List.nil_append, List.cons_append]; rfl) (by repeat' first | exact CL_nil _ _ | refine CL_skip rfl ?_ | refine CL_load (by assumption) rfl (by first | exact trivial | (repeat' first | exact trivial | refine ⟨⟨_, rfl, (by refine (congrArg (fun x => Heap.get x _) (RecIs.hh (by assumption))).trans ?_; first | rfl | exact PtR.same_get (by assumption) (by assumption) (by assumption) | exact Sep.same_get (by assumption) (by assumption) 0 0 rfl rfl | exact Sep.same_get (by assumption) (by assumption) 0 1 rfl rfl | exact Sep.same_get (by assumption) (by assumption) 0 2 rfl rfl | exact Sep.same_get (by assumption) (by assumption) 0 3 rfl rfl | exact Sep.same_get (by assumption) (by assumption) 0 4 rfl rfl | exact Sep.same_get (by assumption) (by assumption) 0 5 rfl rfl | exact Sep.same_get (by assumption) (by assumption) 1 0 rfl rfl | exact Sep.same_get (by assumption) (by assumption) 1 1 rfl rfl | exact Sep.same_get (by assumption) (by assumption) 1 2 rfl rfl | exact Sep.same_get (by assumption) (by assumption) 1 3 rfl rfl | exact Sep.same_get (by assumption) (by assumption) 1 4 rfl rfl | exact Sep.same_get (by assumption) (by assumption) 1 5 rfl rfl | exact Sep.same_get (by assumption) (by assumption) 2 0 rfl rfl | exact Sep.same_get (by assumption) (by assumption) 2 1 rfl rfl | exact Sep.same_get (by assumption) (by assumption) 2 2 rfl rfl | exact Sep.same_get (by assumption) (by assumption) 2 3 rfl rfl | exact Sep.same_get (by assumption) (by assumption) 2 4 rfl rfl | exact Sep.same_get (by assumption) (by assumption) 2 5 rfl rfl | exact Sep.same_get (by assumption) (by assumption) 3 0 rfl rfl | exact Sep.same_get (by assumption) (by assumption) 3 1 rfl rfl | exact Sep.same_get (by assumption) (by assumption) 3 2 rfl rfl | exact Sep.same_get (by assumption) (by assumption) 3 3 rfl rfl | exact Sep.same_get (by assumption) (by assumption) 3 4 rfl rfl | exact Sep.same_get (by assumption) (by assumption) 3 5 rfl rfl | exact Sep.same_get (by assumption) (by assumption) 4 0 rfl rfl | exact Sep.same_get (by assumption) (by assumption) 4 1 rfl rfl | exact Sep.same_get (by assumption) (by assumption) 4 2 rfl rfl | exact Sep.same_get (by assumption) (by assumption) 4 3 rfl rfl | exact Sep.same_get (by assumption) (by assumption) 4 4 rfl rfl | exact Sep.same_get (by assumption) (by assumption) 4 5 rfl rfl | exact Sep.same_get (by assumption) (by assumption) 5 0 rfl rfl | exact Sep.same_get (by assumption) (by assumption) 5 1 rfl rfl | exact Sep.same_get (by assumption) (by assumption) 5 2 rfl rfl | exact Sep.same_get (by assumption) (by assumption) 5 3 rfl rfl | exact Sep.same_get (by assumption) (by assumption) 5 4 rfl rfl | exact Sep.same_get (by assumption) (by assumption) 5 5 rfl rfl)⟩, ?_⟩)) (by first | exact trivial | (repeat' first | exact trivial | refine ⟨⟨_, rfl, (by refine (congrArg (fun x => Heap.get x _) (RecIs.hh' (by assumption))).trans ?_; first | rfl | exact PtR.same_get (by assumption) (by assumption) (by assumption) | exact Sep.same_get (by assumption) (by assumption) 0 0 rfl rfl | exact Sep.same_get (by assumption) (by assumption) 0 1 rfl rfl | exact Sep.same_get (by assumption) (by assumption) 0 2 rfl rfl | exact Sep.same_get (by assumption) (by assumption) 0 3 rfl rfl | exact Sep.same_get (by assumption) (by assumption) 0 4 rfl rfl | exact Sep.same_get (by assumption) (by assumption) 0 5 rfl rfl | exact Sep.same_get (by assumption) (by assumption) 1 0 rfl rfl | exact Sep.same_get (by assumption) (by assumption) 1 1 rfl rfl | exact Sep.same_get (by assumption) (by assumption) 1 2 rfl rfl | exact Sep.same_get (by assumption) (by assumption) 1 3 rfl rfl | exact Sep.same_get (by assumption) (by assumption) 1 4 rfl rfl | exact Sep.same_get (by assumption) (by assumption) 1 5 rfl rfl | exact Sep.same_get (by assumption) (by assumption) 2 0 rfl rfl | exact Sep.same_get (by assumption) (by assumption) 2 1 rfl rfl | exact Sep.same_get (by assumption) (by assumption) 2 2 rfl rfl | exact Sep.same_get (by assumption) (by assumption) 2 3 rfl rfl | exact Sep.same_get (by assumption) (by assumption) 2 4 rfl rfl | exact Sep.same_get (by assumption) (by assumption) 2 5 rfl rfl | exact Sep.same_get (by assumption) (by assumption) 3 0 rfl rfl | exact Sep.same_get (by assumption) (by assumption) 3 1 rfl rfl | exact Sep.same_get (by assumption) (by assumption) 3 2 rfl rfl | exact Sep.same_get (by assumption) (by assumption) 3 3 rfl rfl | exact Sep.same_get (by assumption) (by assumption) 3 4 rfl rfl | exact Sep.same_get (by assumption) (by assumption) 3 5 rfl rfl | exact Sep.same_get (by assumption) (by assumption) 4 0 rfl rfl | exact Sep.same_get (by assumption) (by assumption) 4 1 rfl rfl | exact Sep.same_get (by assumption) (by assumption) 4 2 rfl rfl | exact Sep.same_get (by assumption) (by assumption) 4 3 rfl rfl | exact Sep.same_get (by assumption) (by assumption) 4 4 rfl rfl | exact Sep.same_get (by assumption) (by assumption) 4 5 rfl rfl | exact Sep.same_get (by assumption) (by assumption) 5 0 rfl rfl | exact Sep.same_get (by assumption) (by assumption) 5 1 rfl rfl | exact Sep.same_get (by assumption) (by assumption) 5 2 rfl rfl | exact Sep.same_get (by assumption) (by assumption) 5 3 rfl rfl | exact Sep.same_get (by assumption) (by assumption) 5 4 rfl rfl | exact Sep.same_get (by assumption) (by assumption) 5 5 rfl rfl)⟩, ?_⟩)) ?_) ?_))
  exact ⟨rfl, _, ⟨rfl, ((hs.drop 0).front 1 rfl).unadd⟩, EnvB.of rfl⟩
end Go.Proofs.YtbkhjpclnfljbaaDoor
/- The law CopyPlays. -/
set_option linter.unusedSimpArgs false
set_option linter.unusedVariables false
set_option maxHeartbeats 1000000
set_option maxRecDepth 100000
namespace Go.Proofs.YtbkhjpclnfljbaaDoor
open Go Go.Jx

theorem actV_L (v : Vw) (a : ActV) : (actV v a).L = v.L := by
  unfold actV
  split
  · rfl
  split
  · rfl
  split
  · rfl
  split
  · rfl
  split
  · unfold findR findV
    split
    · cases hh : pickL (spotsL v.L a.t) (v.x, v.y) (decide (a.x < 0)) with
      | none => rfl
      | some p => rfl
    · rfl
  · rfl
theorem w23y {v : SV} {G : List LnC} {n : Int} {h : Heap} (hv : LnsR (Now h) v G) (hl : G.length ≤ 25) (hn : -9223372036854775808 ≤ n ∧ n ≤ 9223372036854775807) (hok : okB (G.map lnOf) n) :
    Wc DD 23 [.sc v, i64 n] h fun w h' => w = bo true ∧ h' = h := by
  refine (w23 hv hl hn).mono ?_
  rintro _ _ _ ⟨w, rfl, ⟨b, rfl, hb⟩, rfl⟩
  exact ⟨_, rfl, by rw [hb.2 hok], rfl⟩
theorem w23n {v : SV} {G : List LnC} {n : Int} {h : Heap} (hv : LnsR (Now h) v G) (hl : G.length ≤ 25) (hn : -9223372036854775808 ≤ n ∧ n ≤ 9223372036854775807) (hok : ¬ okB (G.map lnOf) n) :
    Wc DD 23 [.sc v, i64 n] h fun w h' => w = bo false ∧ h' = h := by
  refine (w23 hv hl hn).mono ?_
  rintro _ _ _ ⟨w, rfl, ⟨b, rfl, hb⟩, rfl⟩
  refine ⟨_, rfl, ?_, rfl⟩
  cases b
  · rfl
  · exact absurd (hb.1 rfl) hok
theorem w6 {v va : SV} {G : List LnC} {AS : List ActV} {n : Int} {h : Heap} (hv : LnsR (Now h) v G) (hl : G.length ≤ 2 ^ 63 - 1) (hl2 : ∀ g ∈ G, g.2.length ≤ 2 ^ 63 - 1) (hr : RunesG G) (hn : -9223372036854775808 ≤ n ∧ n ≤ 9223372036854775807)
    (ha : SlR actE (Now h) va AS) (hal : AS.length ≤ 2 ^ 63 - 1) (hao : ∀ a ∈ AS, okA a) :
    Wc DD 6 [.sc v, i64 n, .sc va] h fun w h' => w = bo true := by
  have hs := Sep.entry h
  have hln := hv.ln
  have haln := ha.ln
  have hv1 := hv.1
  have hGl : (G.map Prod.fst).length = G.length := List.length_map ..
  refine W_enter d6 ?_
  show W _ (.code m6_code [.sc v, i64 n, .sc va, undefA, undefA, undefA, undefA, undefA, undefA, undefA, undefA, undefA, undefA, undefA, undefA, undefA, undefA, undefA, undefA, undefA, undefA, undefA, undefA, undefA, undefA, undefA, undefA, undefA, undefA, undefA, undefA, undefA, undefA, undefA, undefA, undefA, undefA, undefA, undefA, undefA, undefA, undefA, undefA, undefA, undefA, undefA, undefA, undefA, undefA, undefA, undefA, undefA, undefA, undefA, undefA, undefA, undefA, undefA, undefA, undefA, undefA, undefA, undefA, undefA, undefA, undefA, undefA, undefA, undefA, undefA, undefA, undefA, undefA, undefA, undefA, undefA, undefA, undefA, undefA, undefA, undefA, undefA, undefA, undefA, undefA, undefA, undefA, undefA, undefA, undefA, undefA, undefA, undefA, undefA, undefA, undefA, undefA, undefA, undefA, undefA, undefA, undefA, undefA, undefA, undefA, undefA, undefA, undefA, undefA, undefA, undefA, undefA, undefA, undefA, undefA, undefA, undefA, undefA, undefA, undefA, undefA, undefA, undefA, undefA, undefA, undefA, undefA, undefA, undefA, undefA, undefA, undefA, undefA, undefA, undefA, undefA, undefA, undefA, undefA, undefA, undefA, undefA, undefA, undefA, undefA, undefA, undefA, undefA, undefA, undefA, undefA, undefA, undefA, undefA, undefA, undefA, undefA, undefA, undefA, undefA, undefA, undefA, undefA] _) _
  unfold m6_code
  repeat' (first
    | (refine K_ops ?_; first
      | refine W_fastB rfl ?_
      | refine W_nil ?_
      | (refine K_guard ?_; first
        | refine W_guard_on rfl ?_
        | refine W_guard_off rfl rfl (W_norm rfl ?_)
        | (refine W_guardF rfl (fun hc => ?_) (fun hc => ?_) <;> (try rw [hc]) <;> (try simp only [decide_eq_true_eq, decide_eq_false_iff_not, beq_iff_eq, beq_eq_false_iff_ne, bne_iff_ne, bne_eq_false_iff_eq, Bool.not_eq_true', Bool.not_eq_false', Int.not_lt, Int.not_le, ne_eq, reduceCtorEq, not_true_eq_false, not_false_eq_true, Decidable.not_not] at hc) <;> (try (exfalso; omega)) <;> (try refine W_norm rfl ?_))
      )
      | (refine K_call ?_; first
        | (refine W_callsN 9 rfl (w9 hv hl hl2) rfl ?_; rintro _ h ⟨⟨gb, rfl, hgb⟩, rfl⟩; refine W_norm rfl ?_)
        | (refine W_callsN 10 rfl (w10g _) rfl ?_; rintro _ h ⟨rfl, rfl⟩; refine W_norm rfl ?_)
      )
      | (refine W_lenL rfl (by first | assumption | exact SlR.ln (by assumption) | exact AccS.ln (by assumption) | exact OwnS.ln (by assumption) | exact VwO.ln (by assumption) | exact OwnP.ln (by assumption) | exact Len.sl) ?_; refine W_norm rfl ?_)
      | (refine K_pick ?_; first
        | refine W_pick_t rfl rfl (W_norm rfl ?_)
        | refine W_pick_f rfl rfl (W_norm rfl ?_)
      )
    )
    | (refine K_code ?_; first
      | refine W_seq ?_
      | refine W_ops ?_
      | refine W_cond_t rfl ?_
      | (refine W_cond rfl (fun hc => ?_) (fun hc => ?_) <;> (try rw [hc]) <;> (try simp only [decide_eq_true_eq, decide_eq_false_iff_not, beq_iff_eq, beq_eq_false_iff_ne, bne_iff_ne, bne_eq_false_iff_eq, Bool.not_eq_true', Bool.not_eq_false', Int.not_lt, Int.not_le, ne_eq, reduceCtorEq, not_true_eq_false, not_false_eq_true, Decidable.not_not] at hc) <;> (try (exfalso; omega)) <;> (try refine W_norm rfl ?_))
      | refine W_skip ?_
      | refine W_ret ?_
    )
    | refine seqK_n ?_
    | refine seqK_r ?_
    | (refine fnK_r rfl ?_; try dsimp only [gd_z, gd_s]))
  rotate_left 1
  all_goals try exact ⟨_, rfl, rfl⟩
  obtain ⟨g1, g2⟩ := hgb (by assumption)
  have gm : (G.map lnOf).length = G.length := List.length_map ..
  by_cases hok : okB (G.map lnOf) n
  · have ok0 := okB_ok hok g2 hr
    repeat' (first
      | (refine K_ops ?_; first
        | refine W_fastB rfl ?_
        | refine W_nil ?_
        | (refine K_guard ?_; first
          | refine W_guard_on rfl ?_
        )
        | (refine K_call ?_; first
          | (refine W_callsN 11 rfl (w11y (hv.now hs) g1 g2 hn hok) rfl ?_; rintro _ hX ⟨ida, ua, Ga, ka, rfl, hVa, t⟩; replace hs := hs.call t; try simp only [cell_back, attr_back, List.set_cons_zero, List.set_cons_succ, List.eraseIdx_cons_succ, List.eraseIdx_zero, List.tail_cons, List.nil_append, List.cons_append] at hs; replace hs := hs.freeze 1 rfl; (try simp only [List.eraseIdx_cons_succ, List.eraseIdx_cons_zero, List.eraseIdx_zero, List.tail_cons] at hs); replace hVa := hVa.mono (InP.add (Now h) ka); refine W_norm rfl ?_)
          | (refine W_callsN 24 rfl (w24 (v := v) ((hv.mono (Ro.le_add _ _)).now hs) (by omega)) rfl ?_; rintro _ hX ⟨u1, c1, rfl, ha1, t⟩; replace hs := hs.call t; try simp only [cell_back, attr_back, List.set_cons_zero, List.set_cons_succ, List.eraseIdx_cons_succ, List.eraseIdx_zero, List.tail_cons, List.nil_append, List.cons_append] at hs; have hL1 : LnsR (Now hX) u1 G := ⟨(AccS.inPl ha1).mono (InP.now hs (by simp)), fun g hg => (hv.2 g hg).mono (fun _ _ k => hs.le _ _ (.inl k))⟩; refine W_norm rfl ?_)
          | (refine W_callsN 23 rfl (w23y (v := u1) hL1 g1 hn hok) rfl ?_; rintro _ hX ⟨rfl, rfl⟩; refine W_norm rfl ?_)
        )
        | (refine K_bin ?_; first
          | (refine W_nil_ptr_f rfl rfl rfl ?_; refine W_norm rfl ?_)
        )
        | (refine K_pick ?_; first
          | refine W_pick_f rfl rfl (W_norm rfl ?_)
        )
      )
      | (refine K_code ?_; first
        | refine W_seq ?_
        | refine W_ops ?_
        | refine W_cond_f rfl ?_
        | refine W_skip ?_
      )
      | refine seqK_n ?_)
    replace hs := (hs.freeze 0 rfl).drop 0
    simp only [List.eraseIdx_cons_succ, List.eraseIdx_cons_zero, List.eraseIdx_zero, List.tail_cons] at hs
    have hL : LnsR (((Now h).add ka).add c1) u1 G := ⟨(AccS.inPl ha1).mono (InP.add _ _), fun g hg => (hv.2 g hg).mono (fun _ _ k => .inl (.inl k))⟩
    replace hVa := hVa.more (k := c1)
    have haR : SlR actE (((Now h).add ka).add c1) va AS := ha.mono (fun _ _ k => .inl (.inl k))
    obtain ⟨R0, hs, hL, hVa, haR⟩ : ∃ R0, Sep R0 [vwO ida ua .nilp (newV (G.map lnOf) n)] hX ∧ LnsR R0 u1 G ∧ VwR R0 ua .nilp (newV (G.map lnOf) n) Ga ∧ SlR actE R0 va AS := ⟨_, hs, hL, hVa, haR⟩
    clear hL1 ha1 t ha hv hv1
    repeat' (first
      | (refine K_ops ?_; first
        | refine W_fastB rfl ?_
        | refine W_nil ?_
        | (refine K_call ?_; first
          | (refine W_callsN 25 rfl (w25 (v := u1) (hL.now hs) hok) rfl ?_; rintro _ hX ⟨idr, rfl, t⟩; replace hs := hs.call t; try simp only [cell_back, attr_back, List.set_cons_zero, List.set_cons_succ, List.eraseIdx_cons_succ, List.eraseIdx_zero, List.tail_cons, List.nil_append, List.cons_append] at hs; refine W_norm rfl ?_)
        )
      )
      | (refine K_code ?_; first
        | refine W_seq ?_
        | refine W_ops ?_
        | refine W_block ?_
      )
      | refine seqK_n ?_)
    refine W_loopB [6, 10, 11, 12, 13, 14, 15, 54, 55, 56, 57, 58, 59, 60, 61, 62, 63, 64, 65, 66, 67, 68, 69, 70, 71, 72, 73, 74, 75, 76, 77, 78, 79, 80, 81, 82, 83, 84, 85, 86, 87, 88, 89, 90, 91, 92, 93, 94, 95, 96, 97, 98, 99, 100, 101, 102, 103, 104, 105, 106, 107, 108, 109, 110, 111, 112, 113, 114, 115, 116, 117, 118, 119, 120, 121, 122, 123, 124, 125, 126, 127, 128, 129, 130, 131, 132, 133, 134, 135, 136, 137, 138, 139, 140, 141, 142, 143, 144, 145, 146, 147, 148, 149, 150, 151, 152, 153, 154, 155, 156, 157, 158, 159, 160, 161] [0, 1, 2, 3, 4, 5, 6, 7, 8, 9, 10, 11, 12, 13, 14, 15, 16, 17, 18, 19, 20, 21, 22, 23, 24, 25, 26, 27, 28, 29, 30, 31, 32, 33, 34, 35, 36, 37, 38, 39, 40, 41, 42, 43, 44, 45, 46, 47, 48, 49, 50, 51, 52, 53, 54, 55, 56, 57, 58, 59, 60, 61, 62, 63, 64, 65, 66, 67, 68, 69, 70, 71, 72, 73, 74, 75, 76, 77, 78, 79, 80, 81, 82, 83, 84, 85, 86, 87, 88, 89, 90, 91, 92, 93, 94, 95, 96, 97, 98, 99, 100, 101, 102, 103, 104, 105, 106, 107, 108, 109, 110, 111, 112, 113, 114, 115, 116, 117, 118, 119, 120, 121, 122, 123, 124, 125, 126, 127, 128, 129, 130, 131, 132, 133, 134, 135, 136, 137, 138, 139, 140, 141, 142, 143, 144, 145, 146, 147, 148, 149, 150, 151, 152, 153, 154, 155, 156, 157, 158, 159, 160, 161, 162] (fun n' sl h' => ∃ (k : Nat) (R : Ro) (w : Vw) (mk : SV), sl = [(10, .sc (.int .i64 (k : Int)))] ∧ n' = AS.length - k ∧ k ≤ AS.length ∧ R0.le R ∧ VwR R ua mk w Ga ∧ OkV w ∧ w.L = G.map lnOf ∧ Sep R [rvO idr u1 w, vwO ida ua mk w] h') ?_ ?_
    · refine ⟨_, _, ⟨0, R0, newV (G.map lnOf) n, .nilp, rfl, rfl, Nat.zero_le _, fun _ _ k => k, hVa, ok0, rfl, hs⟩, EnvB.of rfl⟩
    clear hs hVa
    rintro _ _ us _ h2 ⟨k, R, w, mk, rfl, rfl, hk, hle, hV, okw, hwL, hs⟩ he
    refine W_spell he rfl ?_
    clear he
    unfold m6_l10
    replace haR := haR.mono hle
    replace hL := hL.mono hle
    by_cases hlt : k < AS.length
    · obtain ⟨a, hA⟩ : ∃ a, a = AS.getD (k : Int).toNat actE.dflt := ⟨_, rfl⟩
      have hoa : okA a := by rw [hA, Int.toNat_natCast]; exact hao _ (getD_mem' hlt)
      have okv := actV_ok okw a
      have hLv : G.map lnOf = (actV w a).L := by rw [actV_L, hwL]
      repeat' (first
        | (refine K_ops ?_; first
          | refine W_fastB rfl ?_
          | refine W_nil ?_
          | (refine K_call ?_; first
            | (refine W_callsN 26 rfl (w26 (v := w) (a := AS.getD (k : Int).toNat actE.dflt) hs hV hL hwL.symm okw (hA ▸ hoa)) rfl ?_; rintro _ hX ⟨rfl, R2, mk2, hle2, hV, hs⟩; rw [← hA] at hV hs; refine W_norm rfl ?_)
            | (refine W_callsN 14 rfl (w14 (v := actV w a) (id := ida) (hs.front 1 rfl) hV.ln okv.l.len) rfl ?_; rintro _ hX ⟨rfl, rfl⟩; refine W_norm rfl ?_)
            | (refine W_callsN 27 rfl (w27 (v := actV w a) (id := ida) (hs.front 1 rfl) hV.ln okv.l.len hV.mr) rfl ?_; rintro _ hX ⟨rfl, rfl⟩; refine W_norm rfl ?_)
          )
          | (refine W_lenL rfl (by first | assumption | exact SlR.ln (by assumption) | exact AccS.ln (by assumption) | exact OwnS.ln (by assumption) | exact VwO.ln (by assumption) | exact OwnP.ln (by assumption) | exact Len.sl) ?_; refine W_norm rfl ?_)
          | (refine K_index ?_; first
            | (refine W_indexR rfl rfl (by assumption) rfl ⟨(by first | omega | (simp only [List.length_set, List.length_append, List.length_take, List.length_drop, List.length_replicate, List.length_cons, List.length_nil, decs_length, List.length_map]; omega)), (by first | omega | (simp only [List.length_set, List.length_append, List.length_take, List.length_drop, List.length_replicate, List.length_cons, List.length_nil, decs_length, List.length_map]; omega))⟩ ?_; intro _ _ _; refine W_norm rfl ?_)
          )
          | (refine K_load ?_; first
            | (refine W_loadRA hs rfl (by assumption) rfl ?_; refine W_norm rfl ?_)
          )
        )
        | (refine K_code ?_; first
          | ((refine W_seq ?_; refine (w6_a (v := actV w a) (id := ida) (idr := idr) ⟨rfl, rfl, rfl, rfl, rfl, rfl, rfl, rfl, trivial⟩ hs hV (hL.mono hle2) hLv okv).mono ?_))
          | refine W_seq ?_
          | refine W_ops ?_
          | refine W_cond_f rfl ?_
          | (refine W_cond rfl (fun hc => ?_) (fun hc => ?_) <;> (try rw [hc]) <;> (try simp only [decide_eq_true_eq, decide_eq_false_iff_not, beq_iff_eq, beq_eq_false_iff_ne, bne_iff_ne, bne_eq_false_iff_eq, Bool.not_eq_true', Bool.not_eq_false', Int.not_lt, Int.not_le, ne_eq, reduceCtorEq, not_true_eq_false, not_false_eq_true, Decidable.not_not] at hc) <;> (try (exfalso; omega)) <;> (try refine W_norm rfl ?_))
          | refine W_skip ?_
          | refine W_block ?_
        )
        | refine seqK_n ?_)
      clear hs
      rintro _ _ hX ⟨rfl, _, ⟨rfl, hs⟩, us3, he⟩
      refine seqK_n ?_
      refine W_spell he rfl ?_
      clear he
      repeat' (first
        | (refine K_code ?_; first
          | ((refine W_seq ?_; refine (w6_b (v := actV w a) (id := ida) (idr := idr) ⟨rfl, rfl, rfl, trivial⟩ hs hV (hL.mono hle2) hLv okv (by rw [← hLv]; omega) g2).mono ?_))
          | refine W_cond_f rfl ?_
          | refine W_skip ?_
        )
        | refine seqK_n ?_)
      clear hs
      rintro _ _ hX ⟨rfl, _, ⟨rfl, hs⟩, us4, he⟩
      refine seqK_n ?_
      refine W_spell he rfl ?_
      clear he
      repeat' (first
        | (refine K_ops ?_; first
          | refine W_fastB rfl ?_
          | refine W_nil ?_
          | (refine K_bin ?_; first
            | (refine W_add rfl rfl (IntWalk.i64_in _ (by first | omega | (simp only [List.length_set, List.length_append, List.length_take, List.length_drop, List.length_replicate, List.length_cons, List.length_nil, decs_length, List.length_map]; omega))) ?_; refine W_norm rfl ?_)
          )
        )
        | (refine K_code ?_; first
          | refine W_ops ?_
          | refine W_cond_f rfl ?_
          | refine W_skip ?_
        )
        | refine seqK_n ?_
        | refine blockK_n ?_
        | refine invK_n ?_)
      refine ⟨_, ?_, _, ⟨k + 1, R2, actV w a, mk2, rfl, rfl, ?_, fun _ _ k => hle2 _ _ (hle _ _ k), hV, okv, hLv.symm, hs⟩, EnvB.of rfl⟩
      · omega
      · omega
    · repeat' (first
        | (refine K_ops ?_; first
          | refine W_fastB rfl ?_
          | refine W_nil ?_
          | (refine K_call ?_; first
            | (refine W_callsN 10 rfl (w10g _) rfl ?_; rintro _ h ⟨rfl, rfl⟩; refine W_norm rfl ?_)
          )
          | (refine W_lenL rfl (by first | assumption | exact SlR.ln (by assumption) | exact AccS.ln (by assumption) | exact OwnS.ln (by assumption) | exact VwO.ln (by assumption) | exact OwnP.ln (by assumption) | exact Len.sl) ?_; refine W_norm rfl ?_)
        )
        | (refine K_code ?_; first
          | refine W_seq ?_
          | refine W_ops ?_
          | (refine W_cond rfl (fun hc => ?_) (fun hc => ?_) <;> (try rw [hc]) <;> (try simp only [decide_eq_true_eq, decide_eq_false_iff_not, beq_iff_eq, beq_eq_false_iff_ne, bne_iff_ne, bne_eq_false_iff_eq, Bool.not_eq_true', Bool.not_eq_false', Int.not_lt, Int.not_le, ne_eq, reduceCtorEq, not_true_eq_false, not_false_eq_true, Decidable.not_not] at hc) <;> (try (exfalso; omega)) <;> (try refine W_norm rfl ?_))
          | refine W_ret ?_
          | refine W_exit ?_
        )
        | refine seqK_n ?_
        | refine seqK_x ?_
        | refine blockK_e ?_
        | refine invK_x ?_
        | (refine fnK_r rfl ?_; try dsimp only [gd_z, gd_s]))
      exact ⟨_, rfl, rfl⟩
  · repeat' (first
      | (refine K_ops ?_; first
        | refine W_fastB rfl ?_
        | refine W_nil ?_
        | (refine K_guard ?_; first
          | refine W_guard_on rfl ?_
        )
        | (refine K_call ?_; first
          | (refine W_callsN 11 rfl (w11n (hv.now hs) g1 g2 hn hok) rfl ?_; rintro _ hX ⟨rfl, t⟩; replace hs := hs.call t; try simp only [cell_back, attr_back, List.set_cons_zero, List.set_cons_succ, List.eraseIdx_cons_succ, List.eraseIdx_zero, List.tail_cons, List.nil_append, List.cons_append] at hs; refine W_norm rfl ?_)
          | (refine W_callsN 24 rfl (w24 (v := v) (hv.now hs) (by omega)) rfl ?_; rintro _ hX ⟨u1, c1, rfl, ha1, t⟩; replace hs := hs.call t; try simp only [cell_back, attr_back, List.set_cons_zero, List.set_cons_succ, List.eraseIdx_cons_succ, List.eraseIdx_zero, List.tail_cons, List.nil_append, List.cons_append] at hs; have hL1 : LnsR (Now hX) u1 G := ⟨(AccS.inPl ha1).mono (InP.now hs (by simp)), fun g hg => (hv.2 g hg).mono hs.le⟩; refine W_norm rfl ?_)
          | (refine W_callsN 23 rfl (w23n (v := u1) hL1 g1 hn hok) rfl ?_; rintro _ hX ⟨rfl, rfl⟩; refine W_norm rfl ?_)
          | (refine W_callsN 10 rfl (w10g _) rfl ?_; rintro _ h ⟨rfl, rfl⟩; refine W_norm rfl ?_)
        )
        | (refine K_bin ?_; first
          | (refine W_nil_ptr_t rfl rfl rfl ?_; refine W_norm rfl ?_)
        )
        | (refine K_pick ?_; first
          | refine W_pick_t rfl rfl (W_norm rfl ?_)
        )
      )
      | (refine K_code ?_; first
        | refine W_seq ?_
        | refine W_ops ?_
        | refine W_cond_t rfl ?_
        | refine W_ret ?_
      )
      | refine seqK_n ?_
      | refine seqK_r ?_
      | (refine fnK_r rfl ?_; try dsimp only [gd_z, gd_s]))
    exact ⟨_, rfl, rfl⟩
theorem openActs {H : Heap} {v : SV} (o : OpenS H (.slice 50 4 [.int .u8, .int .i64, .int .i64, .str]) v) : ∃ AS : List ActV, SlR actE (Now H) v AS ∧ AS.length ≤ 2 ^ 63 - 1 ∧ ∀ a ∈ AS, okA a := by
  obtain ⟨L, h1, h2, h3⟩ := o.sl (enc := actE.enc) (R := okA) actE.len (fun l o => by
    simp only [OpenL, OpenS] at o
    obtain ⟨_, _, rfl, ⟨d, rfl, hd⟩, _, _, rfl, ⟨x, rfl, hx⟩, _, _, rfl, ⟨y, rfl, hy⟩, _, _, rfl, ⟨t, rfl, ht⟩, rfl⟩ := o
    exact ⟨⟨d, x, y, t⟩, rfl, hx, hy, ht⟩)
  exact ⟨L, h1, h3, h2⟩
theorem walk_copyPlays (H : Heap) (avs : List AV) (hwf : H.l.length = H.n) (hs : Sub (HL Tryd.prog.globals.size jxLs) H) (ho : OpenA H [(false, [.slice 27 3 [.slice 71 7 [.int .i32, .int .u8, .int .u16, .int .u8, .int .u32, .int .u8, .int .u32], .bool, .bool]]), (false, [.int .i64]), (false, [.slice 50 4 [.int .u8, .int .i64, .int .i64, .str]])] avs) : W DD (.call 6 avs H) (fun _ vs _ => vs = [.sc (.bool true)]) := by
  simp only [OpenA] at ho
  obtain ⟨_, _, _, hk, rfl, o1, _, _, _, hk2, rfl, o2, _, _, _, hk3, rfl, o3, rfl⟩ := ho
  cases hk; cases hk2; cases hk3
  simp only [OpenS] at o2
  obtain ⟨n, rfl, e1⟩ := o2
  obtain ⟨G, hG, h1, h2, h3⟩ := openLines o1
  obtain ⟨AS, hA, h4, h5⟩ := openActs o3
  exact (w6 hG h1 h2 h3 e1 hA h4 h5).mono fun _ _ _ ⟨v, hv, h3⟩ => by rw [hv, h3]
end Go.Proofs.YtbkhjpclnfljbaaDoor
