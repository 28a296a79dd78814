import Derived.Test.YtfmldkjidfigbaaDoorJxM25G
/- Compose: the law ComposeBanner: what is compared. CLNONE -/
set_option linter.unusedSimpArgs false
set_option linter.unusedVariables false
set_option maxHeartbeats 1000000
set_option maxRecDepth 100000
namespace Go.Proofs.YtfmldkjidfigbaaDoor
open Go Go.Jx

theorem banner_cmp {R : Ro} {M : List Hp} {h : Heap} {e : List AV} {bv mid nid k y : Nat} {a : Bool} {u1 u2 : SV} {L1 L2 : List Cell} {v : ViewV} {cu cu2 : Curs} (he : EnvIs 113 [(1, .sc (.ptr bv 0)), (3, .sc (.ptr mid 0)), (6, .sc (.ptr nid 0)), (8, .sc (.int .i64 (k : Int))), (10, .sc (.int .i64 (y : Int))), (11, .sc (.bool a))] e)
    (hs : Sep R (maO nid v.w v.h u2 cu2 :: maO mid v.w v.h u1 cu :: bvO bv v :: M) h) (l1 : SlR cellE R u1 L1) (l2 : SlR cellE R u2 L2) (hk1 : k < L1.length) (hk2 : k < L2.length) (hL : L1.length ≤ 160000) (hh : 1 ≤ v.h ∧ v.h ≤ 400)
    (hc0 : y = (v.h - 1).toNat ∨ a = false → L1.getD k cell0 = L2.getD k cell0) :
    W DD (.code (.draw m6_r21) e h) (fun x e' h' => x = .normal ∧ ∃ sl, (sl = [(109, .sc (.bool false))] ∧ Sep R (maO nid v.w v.h u2 cu2 :: maO mid v.w v.h u1 cu :: bvO bv v :: M) h') ∧ EnvB e [88, 89, 90, 91, 92, 93, 94, 95, 96, 97, 98, 99, 100, 101, 102, 103, 104, 105, 106, 107, 108, 109] [0, 1, 2, 3, 4, 5, 6, 7, 8, 9, 10, 11, 12, 13, 14, 15, 16, 17, 18, 19, 20, 21, 22, 23, 24, 25, 26, 27, 28, 29, 30, 31, 32, 33, 34, 35, 36, 37, 38, 39, 40, 41, 42, 43, 44, 45, 46, 47, 48, 49, 50, 51, 52, 53, 54, 55, 56, 57, 58, 59, 60, 61, 62, 63, 64, 65, 66, 67, 68, 69, 70, 71, 72, 73, 74, 75, 76, 77, 78, 79, 80, 81, 82, 83, 84, 85, 86, 87, 88, 89, 90, 91, 92, 93, 94, 95, 96, 97, 98, 99, 100, 101, 102, 103, 104, 105, 106, 107, 108, 109, 110, 111, 112] sl e') := by
  obtain ⟨us, rfl⟩ := he.list
  rw [show mkE us [(1, .sc (.ptr bv 0)), (3, .sc (.ptr mid 0)), (6, .sc (.ptr nid 0)), (8, .sc (.int .i64 (k : Int))), (10, .sc (.int .i64 (y : Int))), (11, .sc (.bool a))] 0 113 = [us 0, .sc (.ptr bv 0), us 2, .sc (.ptr mid 0), us 4, us 5, .sc (.ptr nid 0), us 7, .sc (.int .i64 (k : Int)), us 9, .sc (.int .i64 (y : Int)), .sc (.bool a), us 12, us 13, us 14, us 15, us 16, us 17, us 18, us 19, us 20, us 21, us 22, us 23, us 24, us 25, us 26, us 27, us 28, us 29, us 30, us 31, us 32, us 33, us 34, us 35, us 36, us 37, us 38, us 39, us 40, us 41, us 42, us 43, us 44, us 45, us 46, us 47, us 48, us 49, us 50, us 51, us 52, us 53, us 54, us 55, us 56, us 57, us 58, us 59, us 60, us 61, us 62, us 63, us 64, us 65, us 66, us 67, us 68, us 69, us 70, us 71, us 72, us 73, us 74, us 75, us 76, us 77, us 78, us 79, us 80, us 81, us 82, us 83, us 84, us 85, us 86, us 87, us 88, us 89, us 90, us 91, us 92, us 93, us 94, us 95, us 96, us 97, us 98, us 99, us 100, us 101, us 102, us 103, us 104, us 105, us 106, us 107, us 108, us 109, us 110, us 111, us 112] from rfl]
  have n1 := l1.ln
  have n2 := l2.ln
  repeat' (first
    | (refine K_ops ?_; first
      | refine W_fastB rfl ?_
      | refine W_nil ?_
      | (refine K_guard ?_; first
        | refine W_guard_on rfl ?_
        | refine W_guard_off rfl rfl (W_norm rfl ?_)
        | (refine W_guardT rfl (fun hc => ?_) (fun hc => ?_) <;> (try rw [hc]) <;> (try simp only [decide_eq_true_eq, decide_eq_false_iff_not, beq_iff_eq, beq_eq_false_iff_ne, bne_iff_ne, bne_eq_false_iff_eq, Bool.not_eq_true', Bool.not_eq_false', Int.not_lt, Int.not_le, ne_eq, reduceCtorEq, not_true_eq_false, not_false_eq_true, Decidable.not_not] at hc) <;> (try (exfalso; omega)) <;> (try refine W_norm rfl ?_))
        | (refine W_guardF rfl (fun hc => ?_) (fun hc => ?_) <;> (try rw [hc]) <;> (try simp only [decide_eq_true_eq, decide_eq_false_iff_not, beq_iff_eq, beq_eq_false_iff_ne, bne_iff_ne, bne_eq_false_iff_eq, Bool.not_eq_true', Bool.not_eq_false', Int.not_lt, Int.not_le, ne_eq, reduceCtorEq, not_true_eq_false, not_false_eq_true, Decidable.not_not] at hc) <;> (try (exfalso; omega)) <;> (try refine W_norm rfl ?_))
      )
      | (refine K_bin ?_; first
        | (refine W_sub rfl rfl (IntWalk.i64_in _ (by first | omega | (simp only [List.length_set, List.length_append, List.length_take, List.length_drop, List.length_replicate, List.length_cons, List.length_nil, decs_length, List.length_map]; omega))) ?_; refine W_norm rfl ?_)
        | (refine W_neE cellE rfl rfl rfl rfl cellE_fits ?_; refine W_norm rfl ?_)
      )
      | (refine K_pick ?_; first
        | refine W_pick_t rfl rfl (W_norm rfl ?_)
        | refine W_pick_f rfl rfl (W_norm rfl ?_)
      )
      | (refine K_index ?_; first
        | (refine W_indexR rfl rfl (by assumption) rfl ⟨(by first | omega | (simp only [List.length_set, List.length_append, List.length_take, List.length_drop, List.length_replicate, List.length_cons, List.length_nil, decs_length, List.length_map]; omega)), (by first | omega | (simp only [List.length_set, List.length_append, List.length_take, List.length_drop, List.length_replicate, List.length_cons, List.length_nil, decs_length, List.length_map]; omega))⟩ ?_; intro _ _ _; refine W_norm rfl ?_)
      )
      | (refine K_load ?_; first
        | (refine W_loadRA hs rfl (by assumption) rfl ?_; refine W_norm rfl ?_)
        | (refine W_loadC hs 0 rfl rfl rfl ?_; refine W_norm rfl ?_)
        | (refine W_loadC hs 1 rfl rfl rfl ?_; refine W_norm rfl ?_)
      )
    )
    | (refine K_code ?_; first
      | refine W_draws ?_
    )
    | refine W_dstep rfl ?_
    | refine ⟨rfl, fun rc hrec => ?_⟩
    | (refine W_dnilS (by simp only [List.reverse_cons, List.reverse_nil, List.nil_append, List.cons_append]; rfl) (by repeat' first | exact CL_nil _ _ | refine CL_skip rfl ?_ | refine CL_none (by assumption) rfl ?_ | refine CL_load (by assumption) rfl (by first | exact trivial | (repeat' first | exact trivial | refine ⟨⟨_, rfl, (by refine (congrArg (fun x => Heap.get x _) (RecIs.hh (by assumption))).trans ?_; first | rfl | exact PtR.same_get (by assumption) (by assumption) (by assumption) | exact Sep.same_get (by assumption) (by assumption) 0 0 rfl rfl | exact Sep.same_get (by assumption) (by assumption) 0 1 rfl rfl | exact Sep.same_get (by assumption) (by assumption) 0 2 rfl rfl | exact Sep.same_get (by assumption) (by assumption) 1 0 rfl rfl | exact Sep.same_get (by assumption) (by assumption) 1 1 rfl rfl | exact Sep.same_get (by assumption) (by assumption) 1 2 rfl rfl | exact Sep.same_get (by assumption) (by assumption) 2 0 rfl rfl | exact Sep.same_get (by assumption) (by assumption) 2 1 rfl rfl | exact Sep.same_get (by assumption) (by assumption) 2 2 rfl rfl)⟩, ?_⟩)) (by first | exact trivial | (repeat' first | exact trivial | refine ⟨⟨_, rfl, (by refine (congrArg (fun x => Heap.get x _) (RecIs.hh' (by assumption))).trans ?_; first | rfl | exact PtR.same_get (by assumption) (by assumption) (by assumption) | exact Sep.same_get (by assumption) (by assumption) 0 0 rfl rfl | exact Sep.same_get (by assumption) (by assumption) 0 1 rfl rfl | exact Sep.same_get (by assumption) (by assumption) 0 2 rfl rfl | exact Sep.same_get (by assumption) (by assumption) 1 0 rfl rfl | exact Sep.same_get (by assumption) (by assumption) 1 1 rfl rfl | exact Sep.same_get (by assumption) (by assumption) 1 2 rfl rfl | exact Sep.same_get (by assumption) (by assumption) 2 0 rfl rfl | exact Sep.same_get (by assumption) (by assumption) 2 1 rfl rfl | exact Sep.same_get (by assumption) (by assumption) 2 2 rfl rfl)⟩, ?_⟩)) ?_) ?_))
  all_goals first
    | exact ⟨rfl, _, ⟨rfl, hs⟩, EnvB.of rfl⟩
    | (refine ⟨rfl, _, ⟨rfl, hs⟩, atB ?_ (EnvB.of rfl)⟩
       symm
       rw [Bool.not_eq_false', decide_eq_true_eq]
       first | exact hc0 (.inr (by assumption)) | exact hc0 (.inl (by omega)))
end Go.Proofs.YtfmldkjidfigbaaDoor
/- Compose: the law ComposeBanner. -/
set_option linter.unusedSimpArgs false
set_option linter.unusedVariables false
set_option maxHeartbeats 1000000
set_option maxRecDepth 100000
namespace Go.Proofs.YtfmldkjidfigbaaDoor
open Go Go.Jx

theorem PartOk.mono {R R' : Ro} {ln : Lns} {p : PartV} (l : R.le R') (h : PartOk R ln p) : PartOk R' ln p := ⟨h.1, h.2.1.mono l, h.2.2⟩
theorem ViewOk.mono {R R' : Ro} {ln : Lns} {v : ViewV} {P : List PartV} {B : List Rc} (l : R.le R') (h : ViewOk R ln v P B) : ViewOk R' ln v P B := ⟨h.ps.mono l, h.bs.mono l, h.np, h.nb, fun p hp => (h.p p hp).mono l, h.b, h.s, h.w, h.h, h.x, h.y⟩
theorem HasR.mono {R R' : Ro} (l : R.le R') (h : HasR R) : HasR R' := by
  obtain ⟨t, k⟩ := h
  exact ⟨t, l _ _ k⟩
theorem compose_ok {v : ViewV} {P : List PartV} {B : List Rc} {ln : Lns} {R : Ro} {M : List Hp} {h : Heap} (hs : Sep R M h) (hb : HasR R) (hv : ViewOk R ln v P B) (hok : OkV v) :
    Wc DD 8 [.agg (viewL v)] h fun r h' => ∃ u c, r = .tup [.agg (matL v.w v.h u (cursL (pgZ v) v.cur v.x v.y (P.map (pmOf ln)))), i64 0] ∧ AccS cellE 34 u (cellsC v (P.map (pmOf ln)) B) c ∧ Sep R (c :: M) h' := by
  refine (w8 (hb.mono hs.le) (hv.mono hs.le)).mono ?_
  rintro _ vs h' ⟨r, rfl, hr | hr⟩
  · obtain ⟨_, u, c, h1, h2, t⟩ := hr
    exact ⟨_, rfl, u, c, h1, h2, hs.call t⟩
  · exact absurd hok hr.1
theorem compose_no {v : ViewV} {P : List PartV} {B : List Rc} {ln : Lns} {R : Ro} {M : List Hp} {h : Heap} (hs : Sep R M h) (hb : HasR R) (hv : ViewOk R ln v P B) (hok : ¬ OkV v) :
    Wc DD 8 [.agg (viewL v)] h fun r h' => r = .tup [.agg (matL 0 0 .nils curs0), i64 1] ∧ Sep R M h' := by
  refine (w8 (hb.mono hs.le) (hv.mono hs.le)).mono ?_
  rintro _ vs h' ⟨r, rfl, hr | hr⟩
  · exact absurd hr.1 hok
  · obtain ⟨_, h1, t⟩ := hr
    exact ⟨_, rfl, h1, hs.call t⟩
theorem w9 (h : Heap) : Wc DD 9 [] h fun v h' => v = .sc (.bool true) ∧ h' = h := W_known rfl
theorem banner_no {v : ViewV} {P : List PartV} {B : List Rc} {ln : Lns} {h : Heap} (hb : HasR (Now h)) (hv : ViewOk (Now h) ln v P B) (hok : ¬ OkV v) : Wc DD 6 [.agg (viewL v)] h fun r h' => r = bo true := by
  have hs := Sep.entry h
  refine W_enter d6 ?_
  show W _ (.code m6_code [.agg (viewL v), undefA, undefA, undefA, undefA, undefA, undefA, undefA, undefA, undefA, undefA, undefA, undefA, undefA, undefA, undefA, undefA, undefA, undefA, undefA, undefA, undefA, undefA, undefA, undefA, undefA, undefA, undefA, undefA, undefA, undefA, undefA, undefA, undefA, undefA, undefA, undefA, undefA, undefA, undefA, undefA, undefA, undefA, undefA, undefA, undefA, undefA, undefA, undefA, undefA, undefA, undefA, undefA, undefA, undefA, undefA, undefA, undefA, undefA, undefA, undefA, undefA, undefA, undefA, undefA, undefA, undefA, undefA, undefA, undefA, undefA, undefA, undefA, undefA, undefA, undefA, undefA, undefA, undefA, undefA, undefA, undefA, undefA, undefA, undefA, undefA, undefA, undefA, undefA, undefA, undefA, undefA, undefA, undefA, undefA, undefA, undefA, undefA, undefA, undefA, undefA, undefA, undefA, undefA, undefA, undefA, undefA, undefA, undefA, undefA, undefA, undefA, undefA] _) _
  unfold m6_code
  repeat' (first
    | (refine K_ops ?_; first
      | refine W_fastB rfl ?_
      | refine W_nil ?_
      | (refine K_guard ?_; first
        | refine W_guard_on rfl ?_
        | refine W_guard_off rfl rfl (W_norm rfl ?_)
        | (refine W_guardF rfl (fun hc => ?_) (fun hc => ?_) <;> (try rw [hc]) <;> (try simp only [decide_eq_true_eq, decide_eq_false_iff_not, beq_iff_eq, beq_eq_false_iff_ne, bne_iff_ne, bne_eq_false_iff_eq, Bool.not_eq_true', Bool.not_eq_false', Int.not_lt, Int.not_le, ne_eq, reduceCtorEq, not_true_eq_false, not_false_eq_true, Decidable.not_not] at hc) <;> (try (exfalso; omega)) <;> (try refine W_norm rfl ?_))
      )
      | (refine K_call ?_; first
        | (refine W_callsN 9 rfl (w9 _) rfl ?_; rintro _ h1 ⟨rfl, rfl⟩; refine W_norm rfl ?_)
        | (refine W_callsN 8 rfl (compose_no hs hb hv hok) rfl ?_; rintro _ h2 ⟨rfl, hs⟩; refine W_norm rfl ?_)
        | (refine W_callsN 12 rfl (w12 (hv.mono hs.le)) rfl ?_; rintro _ h3 ⟨b, rfl, t⟩; replace hs := hs.call t; try simp only [cell_back, attr_back, List.set_cons_zero, List.set_cons_succ, List.eraseIdx_cons_succ, List.eraseIdx_zero, List.tail_cons, List.nil_append, List.cons_append] at hs; refine W_norm rfl ?_)
      )
      | (refine K_pick ?_; first
        | refine W_pick_t rfl rfl (W_norm rfl ?_)
        | refine W_pick_f rfl rfl (W_norm rfl ?_)
      )
      | (refine K_load ?_; first
        | (refine W_loadCA hs 0 rfl rfl rfl ?_; refine W_norm rfl ?_)
        | (refine W_loadCA hs 1 rfl rfl rfl ?_; refine W_norm rfl ?_)
      )
      | (refine K_store ?_; first
        | (refine W_storeC hs 0 rfl rfl rfl rfl (by first | decide | assumption) rfl rfl ?_; clear hs; intro _ hs; try simp only [cell_back, attr_back, List.set_cons_zero, List.set_cons_succ, List.eraseIdx_cons_succ, List.eraseIdx_zero, List.tail_cons, List.nil_append, List.cons_append] at hs; refine W_norm rfl ?_)
      )
      | (refine W_allocS hs ?_; clear hs; intro al _ hs; try simp only [cell_back, attr_back, List.set_cons_zero, List.set_cons_succ, List.eraseIdx_cons_succ, List.eraseIdx_zero, List.tail_cons, List.nil_append, List.cons_append] at hs; refine W_norm rfl ?_)
      | (refine W_boxS hs rfl rfl ?_; clear hs; intro bx _ hs; try simp only [cell_back, attr_back, List.set_cons_zero, List.set_cons_succ, List.eraseIdx_cons_succ, List.eraseIdx_zero, List.tail_cons, List.nil_append, List.cons_append] at hs; refine W_norm rfl ?_)
    )
    | (refine K_code ?_; first
      | refine W_seq ?_
      | refine W_ops ?_
      | refine W_cond_t rfl ?_
      | refine W_cond_f rfl ?_
      | refine W_skip ?_
      | refine W_ret ?_
    )
    | refine seqK_n ?_
    | refine seqK_r ?_
    | (refine fnK_r rfl ?_; try dsimp only [gd_z, gd_s]))

  all_goals exact ⟨_, rfl, rfl⟩
theorem banner_yes {v : ViewV} {P : List PartV} {B : List Rc} {ln : Lns} {h : Heap} (hb : HasR (Now h)) (hv : ViewOk (Now h) ln v P B) (hok : OkV v) : Wc DD 6 [.agg (viewL v)] h fun r h' => r = bo true := by
  have hs := Sep.entry h
  have hok0 := hok
  obtain ⟨ok1, ok2, ok3, ok4⟩ := hok0
  have hpr : ∀ p ∈ P.map (pmOf ln), RcI p.r := fun q hq => by
    obtain ⟨x, hx, rfl⟩ := List.mem_map.1 hq
    exact (hv.p x hx).1
  have hlen1 := cells_len hok hpr hv.b
  have hlen2 : (cellsC { v with ps := .nils } (List.map (pmOf ln) []) B).length = v.w.toNat * v.h.toNat := cells_len (ps := []) hok (by simp) hv.b
  have hwh1 := fun y hy => cells_whole hok hpr hv.b y hy
  have hwh2 : ∀ y : Nat, y < v.h.toNat → wholeB (((cellsC { v with ps := .nils } (List.map (pmOf ln) []) B).take ((y + 1) * v.w.toNat)).drop (y * v.w.toNat)) = true := fun y hy => cells_whole (ps := []) hok (by simp) hv.b y hy
  have hv2 : ViewOk (Now h) ln { v with ps := .nils } [] B := ⟨SlR.nil _, hv.bs, by decide, hv.nb, by simp, hv.b, hv.s, hv.w, hv.h, hv.x, hv.y⟩
  refine W_enter d6 ?_
  show W _ (.code m6_code [.agg (viewL v), undefA, undefA, undefA, undefA, undefA, undefA, undefA, undefA, undefA, undefA, undefA, undefA, undefA, undefA, undefA, undefA, undefA, undefA, undefA, undefA, undefA, undefA, undefA, undefA, undefA, undefA, undefA, undefA, undefA, undefA, undefA, undefA, undefA, undefA, undefA, undefA, undefA, undefA, undefA, undefA, undefA, undefA, undefA, undefA, undefA, undefA, undefA, undefA, undefA, undefA, undefA, undefA, undefA, undefA, undefA, undefA, undefA, undefA, undefA, undefA, undefA, undefA, undefA, undefA, undefA, undefA, undefA, undefA, undefA, undefA, undefA, undefA, undefA, undefA, undefA, undefA, undefA, undefA, undefA, undefA, undefA, undefA, undefA, undefA, undefA, undefA, undefA, undefA, undefA, undefA, undefA, undefA, undefA, undefA, undefA, undefA, undefA, undefA, undefA, undefA, undefA, undefA, undefA, undefA, undefA, undefA, undefA, undefA, undefA, undefA, undefA, undefA] _) _
  unfold m6_code
  repeat' (first
    | (refine K_ops ?_; first
      | refine W_fastB rfl ?_
      | refine W_nil ?_
      | (refine K_guard ?_; first
        | refine W_guard_on rfl ?_
        | refine W_guard_off rfl rfl (W_norm rfl ?_)
        | (refine W_guardF rfl (fun hc => ?_) (fun hc => ?_) <;> (try rw [hc]) <;> (try simp only [decide_eq_true_eq, decide_eq_false_iff_not, beq_iff_eq, beq_eq_false_iff_ne, bne_iff_ne, bne_eq_false_iff_eq, Bool.not_eq_true', Bool.not_eq_false', Int.not_lt, Int.not_le, ne_eq, reduceCtorEq, not_true_eq_false, not_false_eq_true, Decidable.not_not] at hc) <;> (try (exfalso; omega)) <;> (try refine W_norm rfl ?_))
      )
      | (refine K_call ?_; first
        | (refine W_callsN 9 rfl (w9 _) rfl ?_; rintro _ h1 ⟨rfl, rfl⟩; refine W_norm rfl ?_)
        | (refine W_callsN 8 rfl (compose_ok hs hb hv hok) rfl ?_; rintro _ h2 ⟨u1, c1, rfl, ha1, hs⟩; refine W_norm rfl ?_)
        | (refine W_callsN 12 rfl (w12 (hv.mono hs.le)) rfl ?_; rintro _ h3 ⟨b, rfl, t⟩; replace hs := hs.call t; try simp only [cell_back, attr_back, List.set_cons_zero, List.set_cons_succ, List.eraseIdx_cons_succ, List.eraseIdx_zero, List.tail_cons, List.nil_append, List.cons_append] at hs; refine W_norm rfl ?_)
      )
      | (refine K_pick ?_; first
        | refine W_pick_t rfl rfl (W_norm rfl ?_)
        | refine W_pick_f rfl rfl (W_norm rfl ?_)
      )
      | (refine K_load ?_; first
        | (refine W_loadCA hs 0 rfl rfl rfl ?_; refine W_norm rfl ?_)
        | (refine W_loadCA hs 2 rfl rfl rfl ?_; refine W_norm rfl ?_)
      )
      | (refine K_store ?_; first
        | (refine W_storeC hs 0 rfl rfl rfl rfl (by first | decide | assumption) rfl rfl ?_; clear hs; intro _ hs; try simp only [cell_back, attr_back, List.set_cons_zero, List.set_cons_succ, List.eraseIdx_cons_succ, List.eraseIdx_zero, List.tail_cons, List.nil_append, List.cons_append] at hs; refine W_norm rfl ?_)
      )
      | (refine W_allocS hs ?_; clear hs; intro al _ hs; try simp only [cell_back, attr_back, List.set_cons_zero, List.set_cons_succ, List.eraseIdx_cons_succ, List.eraseIdx_zero, List.tail_cons, List.nil_append, List.cons_append] at hs; refine W_norm rfl ?_)
      | (refine W_boxS hs rfl rfl ?_; clear hs; intro bx _ hs; try simp only [cell_back, attr_back, List.set_cons_zero, List.set_cons_succ, List.eraseIdx_cons_succ, List.eraseIdx_zero, List.tail_cons, List.nil_append, List.cons_append] at hs; refine W_norm rfl ?_)
    )
    | (refine K_code ?_; first
      | (refine (Hold.out (p := W DD (.code (.seq (.ops m6_r6) _) _ _) _) ?_))
      | refine W_seq ?_
      | refine W_ops ?_
      | refine W_cond_t rfl ?_
      | refine W_cond_f rfl ?_
      | refine W_skip ?_
      | refine W_ret ?_
    )
    | refine seqK_n ?_
    | refine seqK_r ?_
    | (refine fnK_r rfl ?_; try dsimp only [gd_z, gd_s]))
  rotate_left
  · exact ⟨_, rfl, rfl⟩
  · refine ⟨?_⟩
    obtain ⟨mid, rfl⟩ : ∃ b, b = al := ⟨_, rfl⟩
    repeat' (first
      | (refine K_ops ?_; first
        | refine W_fastB rfl ?_
        | refine W_nil ?_
        | (refine K_guard ?_; first
          | refine W_guard_on rfl ?_
        )
        | (refine K_call ?_; first
          | (refine W_callsN 8 rfl (compose_ok (v := { v with ps := .nils }) hs hb hv2 hok) rfl ?_; rintro _ h2 ⟨u2, c2, rfl, ha2, hs⟩; refine W_norm rfl ?_)
          | (refine W_callsN 14 rfl (w14 (ha1.now hs (by simp)) ⟨ok1, ok2⟩ ⟨ok3, ok4⟩ hlen1 hwh1) rfl ?_; rintro _ h4 ⟨rfl, t⟩; replace hs := hs.call t; try simp only [cell_back, attr_back, List.set_cons_zero, List.set_cons_succ, List.eraseIdx_cons_succ, List.eraseIdx_zero, List.tail_cons, List.nil_append, List.cons_append] at hs; refine W_norm rfl ?_)
          | (refine W_callsN 14 rfl (w14 (ha2.now hs (by simp)) ⟨ok1, ok2⟩ ⟨ok3, ok4⟩ hlen2 hwh2) rfl ?_; rintro _ h5 ⟨rfl, t⟩; replace hs := hs.call t; try simp only [cell_back, attr_back, List.set_cons_zero, List.set_cons_succ, List.eraseIdx_cons_succ, List.eraseIdx_zero, List.tail_cons, List.nil_append, List.cons_append] at hs; refine W_norm rfl ?_)
        )
        | (refine W_lenL rfl (by first | assumption | exact SlR.ln (by assumption) | exact AccS.ln (by assumption) | exact OwnS.ln (by assumption) | exact VwO.ln (by assumption) | exact OwnP.ln (by assumption) | exact Len.sl) ?_; refine W_norm rfl ?_)
        | (refine K_pick ?_; first
          | refine W_pick_f rfl rfl (W_norm rfl ?_)
        )
        | (refine K_load ?_; first
          | (refine W_loadC hs 0 rfl rfl rfl ?_; refine W_norm rfl ?_)
          | (refine W_loadCA hs 0 rfl rfl rfl ?_; refine W_norm rfl ?_)
          | (refine W_loadCA hs 2 rfl rfl rfl ?_; refine W_norm rfl ?_)
          | (refine W_loadC hs 3 rfl rfl rfl ?_; refine W_norm rfl ?_)
          | (refine W_loadCA hs 3 rfl rfl rfl ?_; refine W_norm rfl ?_)
        )
        | (refine K_store ?_; first
          | (refine W_storeC hs 0 rfl rfl rfl rfl (by first | decide | assumption) rfl rfl ?_; clear hs; intro _ hs; try simp only [cell_back, attr_back, List.set_cons_zero, List.set_cons_succ, List.eraseIdx_cons_succ, List.eraseIdx_zero, List.tail_cons, List.nil_append, List.cons_append] at hs; refine W_norm rfl ?_)
        )
        | (refine W_allocS hs ?_; clear hs; intro al _ hs; try simp only [cell_back, attr_back, List.set_cons_zero, List.set_cons_succ, List.eraseIdx_cons_succ, List.eraseIdx_zero, List.tail_cons, List.nil_append, List.cons_append] at hs; refine W_norm rfl ?_)
      )
      | (refine K_code ?_; first
        | (refine (Hold.out (p := W DD (.code (.seq (.seq (.ops m6_r11) _) _) _ _) _) ?_))
        | refine W_seq ?_
        | refine W_ops ?_
        | (refine W_cond rfl (fun hc => ?_) (fun hc => ?_) <;> (try rw [hc]) <;> (try simp only [decide_eq_true_eq, decide_eq_false_iff_not, beq_iff_eq, beq_eq_false_iff_ne, bne_iff_ne, bne_eq_false_iff_eq, Bool.not_eq_true', Bool.not_eq_false', Int.not_lt, Int.not_le, ne_eq, reduceCtorEq, not_true_eq_false, not_false_eq_true, Decidable.not_not] at hc) <;> (try (exfalso; omega)) <;> (try refine W_norm rfl ?_))
        | refine W_skip ?_
      )
      | refine seqK_n ?_)
    refine ⟨?_⟩
    obtain ⟨nid, rfl⟩ : ∃ b, b = al := ⟨_, rfl⟩
    have l1 : SlR cellE (((Now h).add c1).add c2) u1 (cellsC v (P.map (pmOf ln)) B) := ha1.1.inR fun x hx => .inl (.inr hx)
    have l2 : SlR cellE (((Now h).add c1).add c2) u2 (cellsC { v with ps := .nils } (List.map (pmOf ln) []) B) := ha2.1.inR fun x hx => .inr hx
    have hv9 : ViewOk (((Now h).add c1).add c2) ln v P B := hv.mono fun id o k => .inl (.inl k)
    have hpl := hv9.ps.ln
    have hnp := hv.np
    have hps := hv9.ps
    have n1 := l1.ln
    have hN : (cellsC v (P.map (pmOf ln)) B).length ≤ 160000 := by
      rw [hlen1]; exact Nat.le_trans (Nat.mul_le_mul (show v.w.toNat ≤ 400 by omega) (show v.h.toNat ≤ 400 by omega)) (by decide)
    have n2 := l2.ln
    replace hs := (((hs.freeze 4 rfl).freeze 1 rfl).drop 1)
    replace hs : Sep (((Now h).add c1).add c2) (maO nid v.w v.h u2 curs0 :: maO mid v.w v.h u1 _ :: bvO bx v :: []) _ := hs
    generalize cursL (pgZ v) v.cur v.x v.y (P.map (pmOf ln)) = cu at hs
    repeat' (first
      | (refine K_ops ?_; first
        | refine W_fastB rfl ?_
        | refine W_nil ?_
      )
      | (refine K_code ?_; first
        | refine W_seq ?_
        | refine W_ops ?_
        | refine W_block ?_
      )
      | refine seqK_n ?_)
    refine W_loopB [2, 8, 9, 10, 11, 12, 54, 55, 56, 57, 58, 59, 60, 61, 62, 63, 64, 65, 66, 67, 68, 69, 70, 71, 72, 73, 74, 75, 76, 77, 78, 79, 80, 81, 82, 83, 84, 85, 86, 87, 88, 89, 90, 91, 92, 93, 94, 95, 96, 97, 98, 99, 100, 101, 102, 103, 104, 105, 106, 107, 108, 109] [0, 1, 2, 3, 4, 5, 6, 7, 8, 9, 10, 11, 12, 13, 14, 15, 16, 17, 18, 19, 20, 21, 22, 23, 24, 25, 26, 27, 28, 29, 30, 31, 32, 33, 34, 35, 36, 37, 38, 39, 40, 41, 42, 43, 44, 45, 46, 47, 48, 49, 50, 51, 52, 53, 54, 55, 56, 57, 58, 59, 60, 61, 62, 63, 64, 65, 66, 67, 68, 69, 70, 71, 72, 73, 74, 75, 76, 77, 78, 79, 80, 81, 82, 83, 84, 85, 86, 87, 88, 89, 90, 91, 92, 93, 94, 95, 96, 97, 98, 99, 100, 101, 102, 103, 104, 105, 106, 107, 108, 109, 110, 111, 112] (fun n' sl h' => ∃ (k : Nat), sl = [(8, .sc (.int .i64 (k : Int)))] ∧ n' = (cellsC v (P.map (pmOf ln)) B).length - k ∧ k ≤ (cellsC v (P.map (pmOf ln)) B).length ∧ Sep (((Now h).add c1).add c2) (maO nid v.w v.h u2 curs0 :: maO mid v.w v.h u1 cu :: bvO bx v :: []) h') ?_ ?_
    · refine ⟨_, _, ⟨0, rfl, rfl, by omega, hs⟩, EnvB.of rfl⟩
    clear hs
    rintro _ _ us _ h7 ⟨k, rfl, rfl, hk, hs⟩ he
    refine W_spell he rfl ?_
    clear he
    unfold m6_l12
    by_cases hlt : k < (cellsC v (P.map (pmOf ln)) B).length
    · repeat' (first
        | (refine K_ops ?_; first
          | refine W_fastB rfl ?_
          | refine W_nil ?_
          | (refine W_lenL rfl (by first | assumption | exact SlR.ln (by assumption) | exact AccS.ln (by assumption) | exact OwnS.ln (by assumption) | exact VwO.ln (by assumption) | exact OwnP.ln (by assumption) | exact Len.sl) ?_; refine W_norm rfl ?_)
          | (refine K_bin ?_; first
            | (refine W_div rfl rfl (by omega) ?_; refine W_norm rfl ?_)
            | (refine W_mod rfl rfl (by omega) ?_; refine W_norm rfl ?_)
          )
          | (refine K_load ?_; first
            | (refine W_loadC hs 1 rfl rfl rfl ?_; refine W_norm rfl ?_)
          )
        )
        | (refine K_code ?_; first
          | refine W_seq ?_
          | refine W_ops ?_
          | (refine W_cond rfl (fun hc => ?_) (fun hc => ?_) <;> (try rw [hc]) <;> (try simp only [decide_eq_true_eq, decide_eq_false_iff_not, beq_iff_eq, beq_eq_false_iff_ne, bne_iff_ne, bne_eq_false_iff_eq, Bool.not_eq_true', Bool.not_eq_false', Int.not_lt, Int.not_le, ne_eq, reduceCtorEq, not_true_eq_false, not_false_eq_true, Decidable.not_not] at hc) <;> (try (exfalso; omega)) <;> (try refine W_norm rfl ?_))
          | refine W_skip ?_
          | refine W_block ?_
          | refine W_draws ?_
        )
        | refine W_dstep rfl ?_
        | refine ⟨rfl, fun rc hrec => ?_⟩
        | (refine W_dnilS (by simp only [List.reverse_cons, List.reverse_nil, List.nil_append, List.cons_append]; rfl) (by repeat' first | exact CL_nil _ _ | refine CL_skip rfl ?_ | refine CL_load (by assumption) rfl (by first | exact trivial | (repeat' first | exact trivial | refine ⟨⟨_, rfl, (by refine (congrArg (fun x => Heap.get x _) (RecIs.hh (by assumption))).trans ?_; first | rfl | exact PtR.same_get (by assumption) (by assumption) (by assumption) | exact Sep.same_get (by assumption) (by assumption) 0 0 rfl rfl | exact Sep.same_get (by assumption) (by assumption) 0 1 rfl rfl | exact Sep.same_get (by assumption) (by assumption) 0 2 rfl rfl | exact Sep.same_get (by assumption) (by assumption) 0 3 rfl rfl | exact Sep.same_get (by assumption) (by assumption) 1 0 rfl rfl | exact Sep.same_get (by assumption) (by assumption) 1 1 rfl rfl | exact Sep.same_get (by assumption) (by assumption) 1 2 rfl rfl | exact Sep.same_get (by assumption) (by assumption) 1 3 rfl rfl | exact Sep.same_get (by assumption) (by assumption) 2 0 rfl rfl | exact Sep.same_get (by assumption) (by assumption) 2 1 rfl rfl | exact Sep.same_get (by assumption) (by assumption) 2 2 rfl rfl | exact Sep.same_get (by assumption) (by assumption) 2 3 rfl rfl | exact Sep.same_get (by assumption) (by assumption) 3 0 rfl rfl | exact Sep.same_get (by assumption) (by assumption) 3 1 rfl rfl | exact Sep.same_get (by assumption) (by assumption) 3 2 rfl rfl | exact Sep.same_get (by assumption) (by assumption) 3 3 rfl rfl)⟩, ?_⟩)) (by first | exact trivial | (repeat' first | exact trivial | refine ⟨⟨_, rfl, (by refine (congrArg (fun x => Heap.get x _) (RecIs.hh' (by assumption))).trans ?_; first | rfl | exact PtR.same_get (by assumption) (by assumption) (by assumption) | exact Sep.same_get (by assumption) (by assumption) 0 0 rfl rfl | exact Sep.same_get (by assumption) (by assumption) 0 1 rfl rfl | exact Sep.same_get (by assumption) (by assumption) 0 2 rfl rfl | exact Sep.same_get (by assumption) (by assumption) 0 3 rfl rfl | exact Sep.same_get (by assumption) (by assumption) 1 0 rfl rfl | exact Sep.same_get (by assumption) (by assumption) 1 1 rfl rfl | exact Sep.same_get (by assumption) (by assumption) 1 2 rfl rfl | exact Sep.same_get (by assumption) (by assumption) 1 3 rfl rfl | exact Sep.same_get (by assumption) (by assumption) 2 0 rfl rfl | exact Sep.same_get (by assumption) (by assumption) 2 1 rfl rfl | exact Sep.same_get (by assumption) (by assumption) 2 2 rfl rfl | exact Sep.same_get (by assumption) (by assumption) 2 3 rfl rfl | exact Sep.same_get (by assumption) (by assumption) 3 0 rfl rfl | exact Sep.same_get (by assumption) (by assumption) 3 1 rfl rfl | exact Sep.same_get (by assumption) (by assumption) 3 2 rfl rfl | exact Sep.same_get (by assumption) (by assumption) 3 3 rfl rfl)⟩, ?_⟩)) ?_) ?_)
        | refine seqK_n ?_)
      have ex : (k : Int) % v.w = ((k % v.w.toNat : Nat) : Int) := by
        rw [Int.natCast_emod, Int.toNat_of_nonneg (by omega)]
      have ey : (k : Int) / v.w = ((k / v.w.toNat : Nat) : Int) := by
        rw [Int.natCast_ediv, Int.toNat_of_nonneg (by omega)]
      have hlaw : k / v.w.toNat = (v.h - 1).toNat ∨ heldB (P.map (pmOf ln)) (k / v.w.toNat) (k % v.w.toNat) = false → (cellsC v (P.map (pmOf ln)) B).getD k cell0 = (cellsC v [] B).getD k cell0 := banner_law hok hpr hv.b hlt
      rw [ex, ey]
      generalize k % v.w.toNat = x at *
      generalize k / v.w.toNat = y at *
      refine W_loopB [11, 12, 69, 70, 71, 72, 73, 74, 75, 76, 77, 78, 79, 80, 81, 82, 83, 84, 85, 86, 87] [0, 1, 2, 3, 4, 5, 6, 7, 8, 9, 10, 11, 12, 13, 14, 15, 16, 17, 18, 19, 20, 21, 22, 23, 24, 25, 26, 27, 28, 29, 30, 31, 32, 33, 34, 35, 36, 37, 38, 39, 40, 41, 42, 43, 44, 45, 46, 47, 48, 49, 50, 51, 52, 53, 54, 55, 56, 57, 58, 59, 60, 61, 62, 63, 64, 65, 66, 67, 68, 69, 70, 71, 72, 73, 74, 75, 76, 77, 78, 79, 80, 81, 82, 83, 84, 85, 86, 87, 88, 89, 90, 91, 92, 93, 94, 95, 96, 97, 98, 99, 100, 101, 102, 103, 104, 105, 106, 107, 108, 109, 110, 111, 112] (fun n' sl h' => ∃ (j : Nat) (a : Bool), sl = [(11, .sc (.bool a)), (12, .sc (.int .i64 (j : Int)))] ∧ n' = P.length - j ∧ j ≤ P.length ∧ a = (P.take j).any (fun p => inR p.r (x : Int) (y : Int)) ∧ Sep (((Now h).add c1).add c2) (maO nid v.w v.h u2 curs0 :: maO mid v.w v.h u1 cu :: bvO bx v :: []) h') ?_ ?_
      · refine ⟨_, _, ⟨0, false, rfl, rfl, by omega, rfl, hs⟩, EnvB.of rfl⟩
      clear hs
      rintro _ _ us _ h8 ⟨j, a, rfl, rfl, hj, ha, hs⟩ he
      refine W_spell he rfl ?_
      clear he
      unfold m6_l17
      by_cases hjl : j < P.length
      · have hpx : RcI (P.getD (j : Int).toNat partE.dflt).r := (hv.p _ (getD_mem (d := part0) hjl)).1
        have hst : (P.take (j + 1)).any (fun p => inR p.r (x : Int) (y : Int)) = (a || inR (P.getD (j : Int).toNat partE.dflt).r x y) := by
          rw [List.take_add_one, List.any_append, ← ha, List.getElem?_eq_getElem hjl]
          have e : P.getD (j : Int).toNat partE.dflt = P[j] := by
            rw [Int.toNat_natCast, List.getD_eq_getElem?_getD, List.getElem?_eq_getElem hjl]; rfl
          rw [e]
          simp
        repeat' (first
          | (refine K_ops ?_; first
            | refine W_fastB rfl ?_
            | refine W_nil ?_
            | (refine K_guard ?_; first
              | refine W_guard_on rfl ?_
              | refine W_guard_off rfl rfl (W_norm rfl ?_)
              | (refine W_guardF rfl (fun hc => ?_) (fun hc => ?_) <;> (try rw [hc]) <;> (try simp only [decide_eq_true_eq, decide_eq_false_iff_not, beq_iff_eq, beq_eq_false_iff_ne, bne_iff_ne, bne_eq_false_iff_eq, Bool.not_eq_true', Bool.not_eq_false', Int.not_lt, Int.not_le, ne_eq, reduceCtorEq, not_true_eq_false, not_false_eq_true, Decidable.not_not] at hc) <;> (try (exfalso; omega)) <;> (try refine W_norm rfl ?_))
            )
            | (refine K_call ?_; first
              | (refine W_callsN 15 rfl (w15 hpx) rfl ?_; rintro _ h9 ⟨rfl, t⟩; replace hs := hs.call t; try simp only [cell_back, attr_back, List.set_cons_zero, List.set_cons_succ, List.eraseIdx_cons_succ, List.eraseIdx_zero, List.tail_cons, List.nil_append, List.cons_append] at hs; refine W_norm rfl ?_)
            )
            | (refine W_lenL rfl (by first | assumption | exact SlR.ln (by assumption) | exact AccS.ln (by assumption) | exact OwnS.ln (by assumption) | exact VwO.ln (by assumption) | exact OwnP.ln (by assumption) | exact Len.sl) ?_; refine W_norm rfl ?_)
            | (refine K_bin ?_; first
              | (refine W_add rfl rfl (IntWalk.i64_in _ (by first | omega | (simp only [List.length_set, List.length_append, List.length_take, List.length_drop, List.length_replicate, List.length_cons, List.length_nil, decs_length, List.length_map]; omega))) ?_; refine W_norm rfl ?_)
            )
            | (refine K_pick ?_; first
              | refine W_pick_t rfl rfl (W_norm rfl ?_)
              | refine W_pick_f rfl rfl (W_norm rfl ?_)
            )
            | (refine K_index ?_; first
              | (refine W_indexR rfl rfl (by assumption) rfl ⟨(by first | omega | (simp only [List.length_set, List.length_append, List.length_take, List.length_drop, List.length_replicate, List.length_cons, List.length_nil, decs_length, List.length_map]; omega)), (by first | omega | (simp only [List.length_set, List.length_append, List.length_take, List.length_drop, List.length_replicate, List.length_cons, List.length_nil, decs_length, List.length_map]; omega))⟩ ?_; intro _ _ _; refine W_norm rfl ?_)
            )
            | (refine K_load ?_; first
              | (refine W_loadRP hs rfl (by assumption) rfl ?_; refine W_norm rfl ?_)
              | (refine W_loadC hs 2 rfl rfl rfl ?_; refine W_norm rfl ?_)
            )
          )
          | (refine K_code ?_; first
            | refine W_seq ?_
            | refine W_ops ?_
            | (refine W_cond rfl (fun hc => ?_) (fun hc => ?_) <;> (try rw [hc]) <;> (try simp only [decide_eq_true_eq, decide_eq_false_iff_not, beq_iff_eq, beq_eq_false_iff_ne, bne_iff_ne, bne_eq_false_iff_eq, Bool.not_eq_true', Bool.not_eq_false', Int.not_lt, Int.not_le, ne_eq, reduceCtorEq, not_true_eq_false, not_false_eq_true, Decidable.not_not] at hc) <;> (try (exfalso; omega)) <;> (try refine W_norm rfl ?_))
            | refine W_skip ?_
            | refine W_block ?_
          )
          | refine seqK_n ?_
          | refine blockK_n ?_
          | refine invK_n ?_)
        all_goals refine ⟨_, ?_, _, ⟨j + 1, _, rfl, rfl, ?_, ?_, hs⟩, EnvB.of rfl⟩
        all_goals first
          | omega
          | (rw [hst, show a = false by assumption, Bool.false_or])
          | (rw [hst, show a = true by assumption, Bool.true_or])
          | (rw [hst]; simp)
      · obtain rfl : j = P.length := by omega
        rw [List.take_length] at ha
        have hheld : heldB (P.map (pmOf ln)) y x = a := by rw [ha]; unfold heldB; rw [List.any_map]; rfl
        repeat' (first
          | (refine K_ops ?_; first
            | refine W_fastB rfl ?_
            | refine W_nil ?_
            | (refine W_lenL rfl (by first | assumption | exact SlR.ln (by assumption) | exact AccS.ln (by assumption) | exact OwnS.ln (by assumption) | exact VwO.ln (by assumption) | exact OwnP.ln (by assumption) | exact Len.sl) ?_; refine W_norm rfl ?_)
            | (refine K_load ?_; first
              | (refine W_loadC hs 2 rfl rfl rfl ?_; refine W_norm rfl ?_)
            )
          )
          | (refine K_code ?_; first
            | (refine (Hold.out (p := W DD (.code (.seq (.draw m6_r21) _) _ _) _) ?_))
            | refine W_seq ?_
            | refine W_ops ?_
            | (refine W_cond rfl (fun hc => ?_) (fun hc => ?_) <;> (try rw [hc]) <;> (try simp only [decide_eq_true_eq, decide_eq_false_iff_not, beq_iff_eq, beq_eq_false_iff_ne, bne_iff_ne, bne_eq_false_iff_eq, Bool.not_eq_true', Bool.not_eq_false', Int.not_lt, Int.not_le, ne_eq, reduceCtorEq, not_true_eq_false, not_false_eq_true, Decidable.not_not] at hc) <;> (try (exfalso; omega)) <;> (try refine W_norm rfl ?_))
            | refine W_exit ?_
          )
          | refine seqK_n ?_
          | refine seqK_x ?_
          | refine blockK_e ?_
          | refine invK_x ?_)
        refine ⟨?_⟩
        refine W_midB (a := .draw m6_r21) [88, 89, 90, 91, 92, 93, 94, 95, 96, 97, 98, 99, 100, 101, 102, 103, 104, 105, 106, 107, 108, 109] [0, 1, 2, 3, 4, 5, 6, 7, 8, 9, 10, 11, 12, 13, 14, 15, 16, 17, 18, 19, 20, 21, 22, 23, 24, 25, 26, 27, 28, 29, 30, 31, 32, 33, 34, 35, 36, 37, 38, 39, 40, 41, 42, 43, 44, 45, 46, 47, 48, 49, 50, 51, 52, 53, 54, 55, 56, 57, 58, 59, 60, 61, 62, 63, 64, 65, 66, 67, 68, 69, 70, 71, 72, 73, 74, 75, 76, 77, 78, 79, 80, 81, 82, 83, 84, 85, 86, 87, 88, 89, 90, 91, 92, 93, 94, 95, 96, 97, 98, 99, 100, 101, 102, 103, 104, 105, 106, 107, 108, 109, 110, 111, 112] (fun sl h' => sl = [(109, .sc (.bool false))] ∧ Sep (((Now h).add c1).add c2) (maO nid v.w v.h u2 curs0 :: maO mid v.w v.h u1 cu :: bvO bx v :: []) h') ?_ ?_
        · refine (banner_cmp (bv := bx) (mid := mid) (nid := nid) (k := k) (y := y) (a := a) ⟨rfl, rfl, rfl, rfl, rfl, rfl, rfl, trivial⟩ hs l1 l2 hlt (by omega) hN ⟨ok3, ok4⟩ (fun hq => hlaw (hq.imp id fun q => by rw [hheld]; exact q))).mono ?_
          rintro _ e8 h9 ⟨rfl, sl, ⟨rfl, hs⟩, hE⟩
          refine midK_n ?_
          exact ⟨_, ⟨rfl, hs⟩, hE⟩
        clear hs
        rintro _ us _ h9 ⟨rfl, hs⟩ he
        refine W_spell he rfl ?_
        clear he
        repeat' (first
          | (refine K_ops ?_; first
            | refine W_fastB rfl ?_
            | refine W_nil ?_
            | (refine K_bin ?_; first
              | (refine W_add rfl rfl (IntWalk.i64_in _ (by first | omega | (simp only [List.length_set, List.length_append, List.length_take, List.length_drop, List.length_replicate, List.length_cons, List.length_nil, decs_length, List.length_map]; omega))) ?_; refine W_norm rfl ?_)
            )
          )
          | (refine K_code ?_; first
            | refine W_ops ?_
            | refine W_cond_f rfl ?_
            | refine W_skip ?_
          )
          | refine seqK_n ?_
          | refine blockK_n ?_
          | refine invK_n ?_)
        refine ⟨_, ?_, _, ⟨k + 1, rfl, rfl, ?_, hs⟩, EnvB.of rfl⟩ <;> omega
    · repeat' (first
        | (refine K_ops ?_; first
          | refine W_fastB rfl ?_
          | refine W_nil ?_
          | (refine W_lenL rfl (by first | assumption | exact SlR.ln (by assumption) | exact AccS.ln (by assumption) | exact OwnS.ln (by assumption) | exact VwO.ln (by assumption) | exact OwnP.ln (by assumption) | exact Len.sl) ?_; refine W_norm rfl ?_)
          | (refine K_load ?_; first
            | (refine W_loadC hs 0 rfl rfl rfl ?_; refine W_norm rfl ?_)
            | (refine W_loadC hs 1 rfl rfl rfl ?_; refine W_norm rfl ?_)
          )
        )
        | (refine K_code ?_; first
          | refine W_seq ?_
          | refine W_ops ?_
          | (refine W_cond rfl (fun hc => ?_) (fun hc => ?_) <;> (try rw [hc]) <;> (try simp only [decide_eq_true_eq, decide_eq_false_iff_not, beq_iff_eq, beq_eq_false_iff_ne, bne_iff_ne, bne_eq_false_iff_eq, Bool.not_eq_true', Bool.not_eq_false', Int.not_lt, Int.not_le, ne_eq, reduceCtorEq, not_true_eq_false, not_false_eq_true, Decidable.not_not] at hc) <;> (try (exfalso; omega)) <;> (try refine W_norm rfl ?_))
          | refine W_ret ?_
          | refine W_exit ?_
        )
        | refine seqK_n ?_
        | refine seqK_x ?_
        | refine blockK_e ?_
        | refine invK_x ?_
        | (refine fnK_r rfl ?_; try dsimp only [gd_z, gd_s]))
      exact ⟨_, rfl, rfl⟩
end Go.Proofs.YtfmldkjidfigbaaDoor
