import Derived.Test.YtbkhjpclnfljbaaDoorJxE23
import Derived.Test.YtbkhjpclnfljbaaDoorJxW23MA
/- Views: what stands where, and the small calls. -/
set_option linter.unusedSimpArgs false
set_option linter.unusedVariables false
set_option maxHeartbeats 1000000
set_option maxRecDepth 100000
namespace Go.Proofs.YtbkhjpclnfljbaaDoor
open Go Go.Jx

def MkR (R : Ro) (mk : SV) (m : Option (Int × Int)) : Prop := (m = none ∧ mk = .nilp) ∨ ∃ a b id t kd, m = some (a, b) ∧ mk = .ptr id 0 ∧ R id (.cells t kd [.int .i64 a, .int .i64 b])
theorem MkR.mono {R R' : Ro} {mk : SV} {m : Option (Int × Int)} (l : R.le R') (p : MkR R mk m) : MkR R' mk m := by
  rcases p with p | ⟨a, b, id, t, kd, h1, h2, h3⟩
  · exact .inl p
  · exact .inr ⟨a, b, id, t, kd, h1, h2, l _ _ h3⟩
/-- A view's object. -/
abbrev vwO (id : Nat) (lv mk : SV) (v : Vw) : Hp := [(id, .cells 61 .own [lv, .int .i64 v.h, .int .i64 v.top, .int .i64 v.x, .int .i64 v.y, mk])]
/-- A view, as it lies. -/
structure VwR (R : Ro) (lv mk : SV) (v : Vw) (G : List LnC) : Prop where
  lns : LnsR R lv G
  map : G.map lnOf = v.L
  mr : MkR R mk v.m
theorem VwR.mono {R R' : Ro} {lv mk : SV} {v : Vw} {G : List LnC} (l : R.le R') (p : VwR R lv mk v G) : VwR R' lv mk v G := ⟨p.lns.mono l, p.map, p.mr.mono l⟩
theorem VwR.len {R : Ro} {lv mk : SV} {v : Vw} {G : List LnC} (p : VwR R lv mk v G) : G.length = v.L.length := by rw [← p.map, List.length_map]
theorem VwR.ln {R : Ro} {lv mk : SV} {v : Vw} {G : List LnC} (p : VwR R lv mk v G) : Len lv v.L.length := by have := p.lns.ln; rwa [p.len] at this

theorem w33 {R : Ro} {M : List Hp} {h : Heap} {id : Nat} {lv mk : SV} {v : Vw} (hs : Sep R (vwO id lv mk v :: M) h) (hl : Len lv v.L.length) (ok : 1 ≤ v.L.length) :
    Wc DD 33 [.sc (.ptr id 0)] h fun w h' => w = bo false ∧ h' = h := by
  refine W_enter d33 ?_
  show W _ (.code m33_code [.sc (.ptr id 0), undefA, undefA, undefA, undefA, undefA, undefA, undefA, undefA, undefA, undefA, undefA, undefA] _) _
  unfold m33_code
  repeat' (first
    | (refine K_ops ?_; first
      | refine W_fastB rfl ?_
      | refine W_nil ?_
      | (refine K_guard ?_; first
        | refine W_guard_on rfl ?_
      )
      | (refine W_lenL rfl (by first | assumption | exact SlR.ln (by assumption) | exact AccS.ln (by assumption) | exact OwnS.ln (by assumption) | exact VwO.ln (by assumption) | exact OwnP.ln (by assumption) | exact Len.sl) ?_; refine W_norm rfl ?_)
      | (refine K_bin ?_; first
        | (refine W_nil_ptr_f rfl rfl rfl ?_; refine W_norm rfl ?_)
      )
      | (refine K_pick ?_; first
        | refine W_pick_f rfl rfl (W_norm rfl ?_)
      )
      | (refine K_load ?_; first
        | (refine W_loadC hs 0 rfl rfl rfl ?_; refine W_norm rfl ?_)
      )
    )
    | (refine K_code ?_; first
      | refine W_seq ?_
      | refine W_ops ?_
      | refine W_ret ?_
    )
    | refine seqK_n ?_
    | (refine fnK_r rfl ?_; try dsimp only [gd_z, gd_s]))
  exact ⟨_, rfl, by rw [show ((v.L.length : Int) == 0) = false by rw [beq_eq_false_iff_ne]; omega], rfl⟩
theorem w34 (n lo hi : Int) (h : Heap) : Wc DD 34 [i64 n, i64 lo, i64 hi] h fun w h' => w = i64 (near n lo hi) ∧ h' = h := by
  have hs := Sep.entry h
  refine W_enter d34 ?_
  show W _ (.code m34_code [i64 n, i64 lo, i64 hi, undefA, undefA, undefA, undefA, undefA, undefA, undefA, undefA, undefA] _) _
  unfold m34_code
  repeat' (first
    | (refine K_ops ?_; first
      | refine W_fastB rfl ?_
      | refine W_nil ?_
      | (refine W_min2 rfl rfl ?_; refine W_norm rfl ?_)
      | (refine W_max2 rfl rfl ?_; refine W_norm rfl ?_)
    )
    | (refine K_code ?_; first
      | refine W_seq ?_
      | refine W_ops ?_
      | refine W_ret ?_
    )
    | refine seqK_n ?_
    | (refine fnK_r rfl ?_; try dsimp only [gd_z, gd_s]))
  exact ⟨_, rfl, rfl, rfl⟩
theorem w14 {R : Ro} {M : List Hp} {h : Heap} {id : Nat} {lv mk : SV} {v : Vw} (hs : Sep R (vwO id lv mk v :: M) h) (hl : Len lv v.L.length) (ok : 1 ≤ v.L.length) :
    Wc DD 14 [.sc (.ptr id 0)] h fun w h' => w = .tup [i64 v.x, i64 v.y] ∧ h' = h := by
  refine W_enter d14 ?_
  show W _ (.code m14_code [.sc (.ptr id 0), undefA, undefA, undefA, undefA, undefA, undefA, undefA, undefA, undefA, undefA, undefA, undefA, undefA, undefA, undefA] _) _
  unfold m14_code
  repeat' (first
    | (refine K_ops ?_; first
      | refine W_fastB rfl ?_
      | refine W_nil ?_
      | (refine K_call ?_; first
        | (refine W_callsN 33 rfl (w33 hs hl ok) rfl ?_; rintro _ h ⟨rfl, rfl⟩; refine W_norm rfl ?_)
      )
      | (refine K_load ?_; first
        | (refine W_loadC hs 0 rfl rfl rfl ?_; refine W_norm rfl ?_)
      )
    )
    | (refine K_code ?_; first
      | refine W_seq ?_
      | refine W_ops ?_
      | refine W_cond_f rfl ?_
      | refine W_skip ?_
      | refine W_ret ?_
      | refine W_draw rfl ?_
    )
    | refine seqK_n ?_
    | (refine fnK_r rfl ?_; try dsimp only [gd_z, gd_s]))
  exact ⟨_, rfl, rfl, rfl⟩
theorem w20 {R : Ro} {M : List Hp} {h : Heap} {id : Nat} {lv mk : SV} {v : Vw} (hs : Sep R (vwO id lv mk v :: M) h) (hl : Len lv v.L.length) (ok : 1 ≤ v.L.length) :
    Wc DD 20 [.sc (.ptr id 0)] h fun w h' => w = i64 v.top ∧ h' = h := by
  refine W_enter d20 ?_
  show W _ (.code m20_code [.sc (.ptr id 0), undefA, undefA, undefA, undefA, undefA, undefA, undefA, undefA] _) _
  unfold m20_code
  repeat' (first
    | (refine K_ops ?_; first
      | refine W_fastB rfl ?_
      | refine W_nil ?_
      | (refine K_call ?_; first
        | (refine W_callsN 33 rfl (w33 hs hl ok) rfl ?_; rintro _ h ⟨rfl, rfl⟩; refine W_norm rfl ?_)
      )
      | (refine K_load ?_; first
        | (refine W_loadC hs 0 rfl rfl rfl ?_; refine W_norm rfl ?_)
      )
    )
    | (refine K_code ?_; first
      | refine W_seq ?_
      | refine W_ops ?_
      | refine W_cond_f rfl ?_
      | refine W_skip ?_
      | refine W_ret ?_
    )
    | refine seqK_n ?_
    | (refine fnK_r rfl ?_; try dsimp only [gd_z, gd_s]))
  exact ⟨_, rfl, rfl, rfl⟩
theorem w17 {R : Ro} {M : List Hp} {h : Heap} {id : Nat} {lv mk : SV} {v : Vw} (hs : Sep R (vwO id lv mk v :: M) h) :
    Wc DD 17 [.sc (.ptr id 0)] h fun w h' => w = .tup [] ∧ Sep R (vwO id lv .nilp (clearV v) :: M) h' := by
  refine W_enter d17 ?_
  show W _ (.code m17_code [.sc (.ptr id 0), undefA, undefA, undefA, undefA, undefA, undefA] _) _
  unfold m17_code
  repeat' (first
    | (refine K_ops ?_; first
      | refine W_fastB rfl ?_
      | refine W_nil ?_
      | (refine W_bin (v := bo true) rfl rfl rfl ?_; refine W_norm rfl ?_)
      | (refine K_store ?_; first
        | (refine W_storeC hs 0 rfl rfl rfl rfl (by first | decide | assumption) rfl rfl ?_; clear hs; intro _ hs; try simp only [cell_back, attr_back, List.set_cons_zero, List.set_cons_succ, List.eraseIdx_cons_succ, List.eraseIdx_zero, List.tail_cons, List.nil_append, List.cons_append] at hs; refine W_norm rfl ?_)
      )
    )
    | (refine K_code ?_; first
      | refine W_seq ?_
      | refine W_ops ?_
      | refine W_cond_t rfl ?_
    )
    | refine seqK_n ?_
    | (refine fnK_n rfl ?_; try dsimp only [gd_z, gd_s]))
  exact ⟨_, rfl, rfl, hs⟩
theorem w15 {R : Ro} {M : List Hp} {h : Heap} {id : Nat} {lv mk : SV} {v : Vw} (hs : Sep R (vwO id lv mk v :: M) h) (hl : Len lv v.L.length) (ok : 1 ≤ v.L.length) :
    Wc DD 15 [.sc (.ptr id 0)] h fun w h' => w = .tup [] ∧ ∃ idm c, Sep R ([(idm, .cells c .own [.int .i64 v.x, .int .i64 v.y])] :: vwO id lv (.ptr idm 0) (markV v) :: M) h' := by
  refine W_enter d15 ?_
  show W _ (.code m15_code [.sc (.ptr id 0), undefA, undefA, undefA, undefA, undefA, undefA, undefA, undefA, undefA, undefA, undefA, undefA] _) _
  unfold m15_code
  repeat' (first
    | (refine K_ops ?_; first
      | refine W_fastB rfl ?_
      | refine W_nil ?_
      | (refine K_call ?_; first
        | (refine W_callsN 33 rfl (w33 hs hl ok) rfl ?_; rintro _ h ⟨rfl, rfl⟩; refine W_norm rfl ?_)
      )
      | (refine K_load ?_; first
        | (refine W_loadCA hs 0 rfl rfl rfl ?_; refine W_norm rfl ?_)
      )
      | (refine K_store ?_; first
        | (refine W_storeC hs 0 rfl rfl rfl rfl (by first | decide | assumption) rfl rfl ?_; clear hs; intro _ hs; try simp only [cell_back, attr_back, List.set_cons_zero, List.set_cons_succ, List.eraseIdx_cons_succ, List.eraseIdx_zero, List.tail_cons, List.nil_append, List.cons_append] at hs; refine W_norm rfl ?_)
        | (refine W_storeC hs 1 rfl rfl rfl rfl (by first | decide | assumption) rfl rfl ?_; clear hs; intro _ hs; try simp only [cell_back, attr_back, List.set_cons_zero, List.set_cons_succ, List.eraseIdx_cons_succ, List.eraseIdx_zero, List.tail_cons, List.nil_append, List.cons_append] at hs; refine W_norm rfl ?_)
      )
      | (refine W_allocS hs ?_; clear hs; intro al _ hs; try simp only [cell_back, attr_back, List.set_cons_zero, List.set_cons_succ, List.eraseIdx_cons_succ, List.eraseIdx_zero, List.tail_cons, List.nil_append, List.cons_append] at hs; refine W_norm rfl ?_)
    )
    | (refine K_code ?_; first
      | refine W_seq ?_
      | refine W_ops ?_
      | refine W_cond_t rfl ?_
    )
    | refine seqK_n ?_
    | (refine fnK_n rfl ?_; try dsimp only [gd_z, gd_s]))
  exact ⟨_, rfl, rfl, _, _, hs⟩
theorem w27 {R : Ro} {M : List Hp} {h : Heap} {id : Nat} {lv mk : SV} {v : Vw} (hs : Sep R (vwO id lv mk v :: M) h) (hl : Len lv v.L.length) (ok : 1 ≤ v.L.length) (hm : MkR R mk v.m) :
    Wc DD 27 [.sc (.ptr id 0)] h fun w h' => w = .tup [i64 (v.m.getD (0, 0)).1, i64 (v.m.getD (0, 0)).2, bo v.m.isSome] ∧ h' = h := by
  rcases hm with ⟨hm, rfl⟩ | ⟨a, b, idm, t, kd, hm, rfl, hR⟩
  · rw [hm]
    refine W_enter d27 ?_
    show W _ (.code m27_code [.sc (.ptr id 0), undefA, undefA, undefA, undefA, undefA, undefA, undefA, undefA, undefA, undefA, undefA, undefA, undefA, undefA, undefA, undefA, undefA, undefA, undefA, undefA, undefA, undefA, undefA, undefA, undefA, undefA, undefA] _) _
    unfold m27_code
    repeat' (first
      | (refine K_ops ?_; first
        | refine W_fastB rfl ?_
        | refine W_nil ?_
        | (refine K_guard ?_; first
          | refine W_guard_on rfl ?_
        )
        | (refine K_call ?_; first
          | (refine W_callsN 33 rfl (w33 hs hl ok) rfl ?_; rintro _ h ⟨rfl, rfl⟩; refine W_norm rfl ?_)
        )
        | (refine K_bin ?_; first
          | (refine W_nil_ptr_t rfl rfl rfl ?_; refine W_norm rfl ?_)
        )
        | (refine K_pick ?_; first
          | refine W_pick_f rfl rfl (W_norm rfl ?_)
        )
        | (refine K_load ?_; first
          | (refine W_loadC hs 0 rfl rfl rfl ?_; refine W_norm rfl ?_)
        )
      )
      | (refine K_code ?_; first
        | refine W_seq ?_
        | refine W_ops ?_
        | refine W_cond_t rfl ?_
        | refine W_ret ?_
      )
      | refine seqK_n ?_
      | refine seqK_r ?_
      | (refine fnK_r rfl ?_; try dsimp only [gd_z, gd_s]))
    exact ⟨_, rfl, rfl, rfl⟩
  · rw [hm]
    have hg : h.get idm = _ := hs.ro _ _ hR
    refine W_enter d27 ?_
    show W _ (.code m27_code [.sc (.ptr id 0), undefA, undefA, undefA, undefA, undefA, undefA, undefA, undefA, undefA, undefA, undefA, undefA, undefA, undefA, undefA, undefA, undefA, undefA, undefA, undefA, undefA, undefA, undefA, undefA, undefA, undefA, undefA] _) _
    unfold m27_code
    repeat' (first
      | (refine K_ops ?_; first
        | refine W_fastB rfl ?_
        | refine W_nil ?_
        | (refine W_load_sc rfl hg rfl ?_; refine W_norm rfl ?_)
        | (refine K_guard ?_; first
          | refine W_guard_on rfl ?_
        )
        | (refine K_call ?_; first
          | (refine W_callsN 33 rfl (w33 hs hl ok) rfl ?_; rintro _ h ⟨rfl, rfl⟩; refine W_norm rfl ?_)
        )
        | (refine K_bin ?_; first
          | (refine W_nil_ptr_f rfl rfl rfl ?_; refine W_norm rfl ?_)
        )
        | (refine K_pick ?_; first
          | refine W_pick_f rfl rfl (W_norm rfl ?_)
        )
        | (refine K_load ?_; first
          | (refine W_loadC hs 0 rfl rfl rfl ?_; refine W_norm rfl ?_)
        )
      )
      | (refine K_code ?_; first
        | refine W_seq ?_
        | refine W_ops ?_
        | refine W_cond_f rfl ?_
        | refine W_skip ?_
        | refine W_ret ?_
        | refine W_draw rfl ?_
      )
      | refine seqK_n ?_
      | (refine fnK_r rfl ?_; try dsimp only [gd_z, gd_s]))
    exact ⟨_, rfl, rfl, rfl⟩
end Go.Proofs.YtbkhjpclnfljbaaDoor
/- Views: the cursor goes. CLNONE -/
set_option linter.unusedSimpArgs false
set_option linter.unusedVariables false
set_option maxHeartbeats 1000000
set_option maxRecDepth 100000
namespace Go.Proofs.YtbkhjpclnfljbaaDoor
open Go Go.Jx

theorem wid_at {L : List Ln} {G : List LnC} (hm : G.map lnOf = L) {Y : Nat} (hY : Y < G.length) : wid L (Y : Int) = ((atC G Y).length : Int) := by
  subst hm
  unfold wid
  rw [Int.toNat_natCast, List.getD_eq_getElem?_getD, lnOf_atH hY]; rfl
theorem w12 {R : Ro} {M : List Hp} {h : Heap} {id : Nat} {lv mk : SV} {v : Vw} {G : List LnC} {x y : Int} (hs : Sep R (vwO id lv mk v :: M) h) (hG : VwR R lv mk v G) (ok : OkV v) (hx : -9223372036854775808 ≤ x ∧ x ≤ 9223372036854775807) (hy : -9223372036854775808 ≤ y ∧ y ≤ 9223372036854775807) :
    Wc DD 12 [.sc (.ptr id 0), i64 x, i64 y] h fun w h' => w = .tup [] ∧ Sep R (vwO id lv mk (toV v x y) :: M) h' := by
  have hl := hG.ln
  have hlen := hG.len
  have ok1 := ok.l.len
  have ok2 := ok.l.big
  have hn := near_in (n := y) (lo := 0) (hi := (v.L.length : Int) - 1) (by omega)
  obtain ⟨Y, hY⟩ : ∃ Y : Nat, near y 0 ((v.L.length : Int) - 1) = (Y : Int) := ⟨(near y 0 ((v.L.length : Int) - 1)).toNat, by omega⟩
  have hYl : Y < G.length := by omega
  have hw := wid_at hG.map hYl
  have hwl := ok.l.wid (y := (Y : Int)) (by omega) (by omega)
  have hrow := hG.lns.at hYl
  have hrl := hrow.ln
  have hln := hG.lns.1
  have e : toV v x y = { v with y := (Y : Int), x := near x 0 (((atC G Y).length : Int) - 1), top := near v.top ((Y : Int) - v.h + 1) (Y : Int) } := by
    unfold toV; rw [hY, hw]
  rw [e]
  have ht := ok.t0
  have ht2 := ok.t1
  have hh := ok.l.h1
  have hh2 := ok.l.h2
  refine W_enter d12 ?_
  show W _ (.code m12_code [.sc (.ptr id 0), i64 x, i64 y, undefA, undefA, undefA, undefA, undefA, undefA, undefA, undefA, undefA, undefA, undefA, undefA, undefA, undefA, undefA, undefA, undefA, undefA, undefA, undefA, undefA, undefA, undefA, undefA, undefA, undefA, undefA, undefA, undefA, undefA, undefA, undefA, undefA, undefA, undefA, undefA, undefA, undefA, undefA, undefA, undefA, undefA, undefA, undefA, undefA, undefA, undefA, undefA, undefA, undefA, undefA, undefA, undefA, undefA, undefA, undefA, undefA, undefA, undefA, undefA, undefA] _) _
  unfold m12_code
  repeat' (first
    | (refine K_ops ?_; first
      | refine W_fastB rfl ?_
      | refine W_nil ?_
      | (refine K_call ?_; first
        | (refine W_callsN 33 rfl (w33 hs hl ok1) rfl ?_; rintro _ h ⟨rfl, rfl⟩; refine W_norm rfl ?_)
        | (refine W_callsN 34 rfl (w34 _ _ _ _) rfl ?_; rintro _ h ⟨rfl, rfl⟩; (try rw [hY]); refine W_norm rfl ?_)
      )
      | (refine W_lenL rfl (by first | assumption | exact SlR.ln (by assumption) | exact AccS.ln (by assumption) | exact OwnS.ln (by assumption) | exact VwO.ln (by assumption) | exact OwnP.ln (by assumption) | exact Len.sl) ?_; refine W_norm rfl ?_)
      | (refine K_bin ?_; first
        | (refine W_add rfl rfl (IntWalk.i64_in _ (by first | omega | (simp only [List.length_set, List.length_append, List.length_take, List.length_drop, List.length_replicate, List.length_cons, List.length_nil, decs_length, List.length_map]; omega))) ?_; refine W_norm rfl ?_)
        | (refine W_sub rfl rfl (IntWalk.i64_in _ (by first | omega | (simp only [List.length_set, List.length_append, List.length_take, List.length_drop, List.length_replicate, List.length_cons, List.length_nil, decs_length, List.length_map]; omega))) ?_; refine W_norm rfl ?_)
      )
      | (refine K_index ?_; first
        | (refine W_indexR rfl rfl (by assumption) rfl ⟨(by first | omega | (simp only [List.length_set, List.length_append, List.length_take, List.length_drop, List.length_replicate, List.length_cons, List.length_nil, decs_length, List.length_map]; omega)), (by first | omega | (simp only [List.length_set, List.length_append, List.length_take, List.length_drop, List.length_replicate, List.length_cons, List.length_nil, decs_length, List.length_map]; omega))⟩ ?_; intro _ _ _; refine W_norm rfl ?_)
      )
      | (refine K_load ?_; first
        | (refine W_loadR hs rfl (by assumption) rfl ?_; refine W_norm rfl ?_)
        | (refine W_loadC hs 0 rfl rfl rfl ?_; refine W_norm rfl ?_)
      )
      | (refine K_store ?_; first
        | (refine W_storeC hs 0 rfl rfl rfl rfl (by first | decide | assumption) rfl rfl ?_; clear hs; intro _ hs; try simp only [cell_back, attr_back, List.set_cons_zero, List.set_cons_succ, List.eraseIdx_cons_succ, List.eraseIdx_zero, List.tail_cons, List.nil_append, List.cons_append] at hs; refine W_norm rfl ?_)
      )
    )
    | (refine K_code ?_; first
      | refine W_seq ?_
      | refine W_ops ?_
      | refine W_cond_f rfl ?_
      | refine W_skip ?_
      | refine W_draw rfl ?_
    )
    | refine seqK_n ?_
    | (refine fnK_n rfl ?_; try dsimp only [gd_z, gd_s]))
  exact ⟨_, rfl, rfl, hs⟩
theorem w19 {R : Ro} {M : List Hp} {h : Heap} {id : Nat} {lv mk : SV} {v : Vw} {G : List LnC} {x y : Int} (hs : Sep R (vwO id lv mk v :: M) h) (hG : VwR R lv mk v G) (ok : OkV v) :
    Wc DD 19 [.sc (.ptr id 0), i64 x, i64 y] h fun w h' => w = .tup [] ∧ Sep R (vwO id lv mk (moveV v x y) :: M) h' := by
  have hl := hG.ln
  have ok1 := ok.l.len
  have ok2 := ok.l.big
  have hx := near_in (n := x) (lo := -1000) (hi := 1000) (by omega)
  have hy := near_in (n := y) (lo := -1000) (hi := 1000) (by omega)
  have b1 := ok.x0
  have b2 := ok.x1
  have b3 := ok.y0
  have b4 := ok.y1
  have b5 := (ok.l.wid ok.y0 ok.y1).2
  refine W_enter d19 ?_
  show W _ (.code m19_code [.sc (.ptr id 0), i64 x, i64 y, undefA, undefA, undefA, undefA, undefA, undefA, undefA, undefA, undefA, undefA, undefA, undefA, undefA, undefA, undefA, undefA, undefA, undefA, undefA, undefA, undefA, undefA, undefA, undefA] _) _
  unfold m19_code
  repeat' (first
    | (refine K_ops ?_; first
      | refine W_fastB rfl ?_
      | refine W_nil ?_
      | (refine K_call ?_; first
        | (refine W_callsN 33 rfl (w33 hs hl ok1) rfl ?_; rintro _ h ⟨rfl, rfl⟩; refine W_norm rfl ?_)
      )
    )
    | (refine K_code ?_; first
      | refine W_seq ?_
      | refine W_ops ?_
      | refine W_cond_t rfl ?_
    )
    | refine seqK_n ?_)
  repeat' (first
    | (refine K_ops ?_; first
      | refine W_fastB rfl ?_
      | refine W_nil ?_
      | (refine K_call ?_; first
        | (refine W_callsN 34 rfl (w34 _ _ _ _) rfl ?_; rintro _ h ⟨rfl, rfl⟩; refine W_norm rfl ?_)
        | (refine W_callsN 12 rfl (w12 hs hG ok (by omega) (by omega)) rfl ?_; rintro _ h2 ⟨rfl, hs⟩; refine W_norm rfl ?_)
      )
      | (refine K_bin ?_; first
        | (refine W_add rfl rfl (IntWalk.i64_in _ (by first | omega | (simp only [List.length_set, List.length_append, List.length_take, List.length_drop, List.length_replicate, List.length_cons, List.length_nil, decs_length, List.length_map]; omega))) ?_; refine W_norm rfl ?_)
      )
      | (refine K_load ?_; first
        | (refine W_loadC hs 0 rfl rfl rfl ?_; refine W_norm rfl ?_)
      )
    )
    | (refine K_code ?_; first
      | refine W_draws ?_
    )
    | refine W_dstep rfl ?_
    | refine ⟨rfl, fun rc hrec => ?_⟩
    | (refine W_dnilS (by simp only [List.reverse_cons, List.reverse_nil, List.nil_append, List.cons_append]; rfl) (by repeat' first | exact CL_nil _ _ | refine CL_skip rfl ?_ | refine CL_none (by assumption) rfl ?_ | refine CL_load (by assumption) rfl (by first | exact trivial | (repeat' first | exact trivial | refine ⟨⟨_, rfl, (by refine (congrArg (fun x => Heap.get x _) (RecIs.hh (by assumption))).trans ?_; first | rfl | exact PtR.same_get (by assumption) (by assumption) (by assumption) | exact Sep.same_get (by assumption) (by assumption) 0 0 rfl rfl | exact Sep.same_get (by assumption) (by assumption) 0 1 rfl rfl | exact Sep.same_get (by assumption) (by assumption) 0 2 rfl rfl | exact Sep.same_get (by assumption) (by assumption) 0 3 rfl rfl | exact Sep.same_get (by assumption) (by assumption) 1 0 rfl rfl | exact Sep.same_get (by assumption) (by assumption) 1 1 rfl rfl | exact Sep.same_get (by assumption) (by assumption) 1 2 rfl rfl | exact Sep.same_get (by assumption) (by assumption) 1 3 rfl rfl | exact Sep.same_get (by assumption) (by assumption) 2 0 rfl rfl | exact Sep.same_get (by assumption) (by assumption) 2 1 rfl rfl | exact Sep.same_get (by assumption) (by assumption) 2 2 rfl rfl | exact Sep.same_get (by assumption) (by assumption) 2 3 rfl rfl | exact Sep.same_get (by assumption) (by assumption) 3 0 rfl rfl | exact Sep.same_get (by assumption) (by assumption) 3 1 rfl rfl | exact Sep.same_get (by assumption) (by assumption) 3 2 rfl rfl | exact Sep.same_get (by assumption) (by assumption) 3 3 rfl rfl)⟩, ?_⟩)) (by first | exact trivial | (repeat' first | exact trivial | refine ⟨⟨_, rfl, (by refine (congrArg (fun x => Heap.get x _) (RecIs.hh' (by assumption))).trans ?_; first | rfl | exact PtR.same_get (by assumption) (by assumption) (by assumption) | exact Sep.same_get (by assumption) (by assumption) 0 0 rfl rfl | exact Sep.same_get (by assumption) (by assumption) 0 1 rfl rfl | exact Sep.same_get (by assumption) (by assumption) 0 2 rfl rfl | exact Sep.same_get (by assumption) (by assumption) 0 3 rfl rfl | exact Sep.same_get (by assumption) (by assumption) 1 0 rfl rfl | exact Sep.same_get (by assumption) (by assumption) 1 1 rfl rfl | exact Sep.same_get (by assumption) (by assumption) 1 2 rfl rfl | exact Sep.same_get (by assumption) (by assumption) 1 3 rfl rfl | exact Sep.same_get (by assumption) (by assumption) 2 0 rfl rfl | exact Sep.same_get (by assumption) (by assumption) 2 1 rfl rfl | exact Sep.same_get (by assumption) (by assumption) 2 2 rfl rfl | exact Sep.same_get (by assumption) (by assumption) 2 3 rfl rfl | exact Sep.same_get (by assumption) (by assumption) 3 0 rfl rfl | exact Sep.same_get (by assumption) (by assumption) 3 1 rfl rfl | exact Sep.same_get (by assumption) (by assumption) 3 2 rfl rfl | exact Sep.same_get (by assumption) (by assumption) 3 3 rfl rfl)⟩, ?_⟩)) ?_) ?_)
    | (refine fnK_n rfl ?_; try dsimp only [gd_z, gd_s]))
  exact ⟨_, rfl, rfl, hs⟩
end Go.Proofs.YtbkhjpclnfljbaaDoor
/- Views: lines in new memory. CALLV -/
set_option linter.unusedSimpArgs false
set_option linter.unusedVariables false
set_option maxHeartbeats 1000000
set_option maxRecDepth 100000
namespace Go.Proofs.YtbkhjpclnfljbaaDoor
open Go Go.Jx

theorem w47 {v : SV} {L : List LnH} {h : Heap} (hv : SlR lnE (Now h) v L) (hl : L.length ≤ 100000) : Wc DD 47 [.sc v] h fun w h' => ∃ u c, w = .sc u ∧ AccS lnE 27 u L c ∧ Sep (Now h) [c] h' := by
  have hs := Sep.entry h
  have hv' := hv
  rcases hv' with ⟨rfl, rfl | ⟨b, rfl⟩⟩ | ⟨id, off, cap, t, kd, cs, rfl, h2, h3, h4⟩
  · refine W_enter d47 ?_
    show W _ (.code m47_code [.sc .nils, undefA, undefA, undefA, undefA, undefA, undefA, undefA] _) _
    unfold m47_code
    repeat' (first
      | (refine K_ops ?_; first
        | refine W_fastB rfl ?_
        | refine W_nil ?_
        | (refine K_bin ?_; first
          | (refine W_nilSl_t rfl rfl rfl ?_; refine W_norm rfl ?_)
        )
      )
      | (refine K_code ?_; first
        | refine W_seq ?_
        | refine W_ops ?_
        | refine W_cond_t rfl ?_
        | refine W_ret ?_
      )
      | refine seqK_n ?_
      | refine seqK_r ?_
      | (refine fnK_r rfl ?_; try dsimp only [gd_z, gd_s]))
    exact ⟨_, rfl, _, _, rfl, AccS.nil _, hs.nil⟩
  · refine W_enter d47 ?_
    show W _ (.code m47_code [.sc (.eslice b), undefA, undefA, undefA, undefA, undefA, undefA, undefA] _) _
    unfold m47_code
    repeat' (first
      | (refine K_ops ?_; first
        | refine W_fastB rfl ?_
        | refine W_nil ?_
        | (refine K_bin ?_; first
          | (refine W_nilSl_e rfl rfl rfl ?_; refine W_norm rfl ?_)
        )
        | (refine K_bslice ?_; first
          | (refine W_buildS0 lnE hs ?_; clear hs; intro _ _ _ _ hs; try simp only [cell_back, attr_back, List.set_cons_zero, List.set_cons_succ, List.eraseIdx_cons_succ, List.eraseIdx_zero, List.tail_cons, List.nil_append, List.cons_append] at hs; refine W_norm rfl ?_)
        )
        | (refine K_append ?_; first
          | (refine W_appS hs 0 rfl rfl (by assumption) rfl (by first | assumption | exact SlR.now hs (by assumption) | exact AccS.now (by assumption) hs (by simp) | exact OwnS.now (by assumption) hs (by simp)) rfl ⟨by decide, (by first | omega | (simp only [List.length_set, List.length_append, List.length_take, List.length_drop, List.length_replicate, List.length_cons, List.length_nil, decs_length, List.length_map]; omega))⟩ ?_; clear hs; intro _ _ _ _ hs; try simp only [cell_back, attr_back, List.set_cons_zero, List.set_cons_succ, List.eraseIdx_cons_succ, List.eraseIdx_zero, List.tail_cons, List.nil_append, List.cons_append] at hs; refine W_norm rfl ?_)
        )
      )
      | (refine K_code ?_; first
        | refine W_seq ?_
        | refine W_ops ?_
        | refine W_cond_f rfl ?_
        | refine W_skip ?_
        | refine W_ret ?_
      )
      | refine seqK_n ?_
      | (refine fnK_r rfl ?_; try dsimp only [gd_z, gd_s]))
    rename_i ha
    exact ⟨_, rfl, _, _, rfl, ha, hs⟩
  · refine W_enter d47 ?_
    show W _ (.code m47_code [.sc (.slice id off L.length cap), undefA, undefA, undefA, undefA, undefA, undefA, undefA] _) _
    unfold m47_code
    repeat' (first
      | (refine K_ops ?_; first
        | refine W_fastB rfl ?_
        | refine W_nil ?_
        | (refine K_bin ?_; first
          | (refine W_nilSl_f rfl rfl rfl ?_; refine W_norm rfl ?_)
        )
        | (refine K_bslice ?_; first
          | (refine W_buildS0 lnE hs ?_; clear hs; intro _ _ _ _ hs; try simp only [cell_back, attr_back, List.set_cons_zero, List.set_cons_succ, List.eraseIdx_cons_succ, List.eraseIdx_zero, List.tail_cons, List.nil_append, List.cons_append] at hs; refine W_norm rfl ?_)
        )
        | (refine K_append ?_; first
          | (refine W_appS hs 0 rfl rfl (by assumption) rfl (by first | assumption | exact SlR.now hs (by assumption) | exact AccS.now (by assumption) hs (by simp) | exact OwnS.now (by assumption) hs (by simp)) rfl ⟨by decide, (by first | omega | (simp only [List.length_set, List.length_append, List.length_take, List.length_drop, List.length_replicate, List.length_cons, List.length_nil, decs_length, List.length_map]; omega))⟩ ?_; clear hs; intro _ _ _ _ hs; try simp only [cell_back, attr_back, List.set_cons_zero, List.set_cons_succ, List.eraseIdx_cons_succ, List.eraseIdx_zero, List.tail_cons, List.nil_append, List.cons_append] at hs; refine W_norm rfl ?_)
        )
      )
      | (refine K_code ?_; first
        | refine W_seq ?_
        | refine W_ops ?_
        | refine W_cond_f rfl ?_
        | refine W_skip ?_
        | refine W_ret ?_
      )
      | refine seqK_n ?_
      | (refine fnK_r rfl ?_; try dsimp only [gd_z, gd_s]))
    rename_i ha
    exact ⟨_, rfl, _, _, rfl, ha, hs⟩

/-- Lines of one's own. -/
abbrev OwnX (X : List (LnH × Hp)) (L : List Ln) : Prop := LR (fun (x : LnH × Hp) (l : Ln) => AccS cellE 71 x.1.v l.cells x.2 ∧ x.1.j = l.joined ∧ x.1.s = l.short) X L
theorem sep_empty2 {R : Ro} {a : Hp} {h : Heap} (s : Sep R [a] h) : Sep R [a, []] h := s.sublist (by simp)
theorem w32 {v : SV} {G : List LnC} {h : Heap} (hv : LnsR (Now h) v G) (hl : G.length ≤ 100000) (hl2 : ∀ g ∈ G, g.2.length ≤ 100000) :
    Wc DD 32 [.sc v] h fun w h' => ∃ u c X, w = .sc u ∧ AccS lnE 27 u (X.map Prod.fst) c ∧ OwnX X (G.map lnOf) ∧ Sep (Now h) [c, (X.map Prod.snd).flatten] h' := by
  have hs := Sep.entry h
  have hln := hv.ln
  refine W_enter d32 ?_
  show W _ (.code m32_code [.sc v, undefA, undefA, undefA, undefA, undefA, undefA, undefA, undefA, undefA, undefA, undefA, undefA, undefA, undefA, undefA, undefA, undefA, undefA, undefA, undefA, undefA, undefA, undefA] _) _
  unfold m32_code
  repeat' (first
    | (refine K_ops ?_; first
      | refine W_fastB rfl ?_
      | refine W_nil ?_
      | (refine K_call ?_; first
        | (refine W_callsN 47 rfl (w47 (SlR.now hs hv.1) (by rw [List.length_map]; exact hl)) rfl ?_; rintro _ h2 ⟨u, c, rfl, ha, t⟩; replace hs := hs.call t; try simp only [cell_back, attr_back, List.set_cons_zero, List.set_cons_succ, List.eraseIdx_cons_succ, List.eraseIdx_zero, List.tail_cons, List.nil_append, List.cons_append] at hs; refine W_norm rfl ?_)
      )
      | (refine W_lenL rfl (by first | assumption | exact SlR.ln (by assumption) | exact AccS.ln (by assumption) | exact OwnS.ln (by assumption) | exact VwO.ln (by assumption) | exact OwnP.ln (by assumption) | exact Len.sl) ?_; refine W_norm rfl ?_)
    )
    | (refine K_code ?_; first
      | refine W_seq ?_
      | refine W_ops ?_
      | refine W_block ?_
    )
    | refine seqK_n ?_)
  have hal := ha.ln
  rw [List.length_map] at hal
  have hGl : (G.map Prod.fst).length = G.length := List.length_map ..
  refine W_loopB [4, 9, 10, 11, 12, 13, 14, 15, 16, 17, 18, 19, 20, 21, 22] [0, 1, 2, 3, 4, 5, 6, 7, 8, 9, 10, 11, 12, 13, 14, 15, 16, 17, 18, 19, 20, 21, 22, 23] (fun n' sl h' => ∃ (k : Nat) (c : Hp) (X : List (LnH × Hp)), sl = [(3, .sc u), (8, .sc (.int .i64 ((G.map Prod.fst).length : Int))), (9, .sc (.int .i64 (k : Int)))] ∧ n' = G.length - k ∧ k ≤ G.length ∧ X.length = k ∧ AccS lnE 27 u (X.map Prod.fst ++ (G.map Prod.fst).drop k) c ∧ OwnX X ((G.map lnOf).take k) ∧ Sep (Now h) [c, (X.map Prod.snd).flatten] h') ?_ ?_
  · refine ⟨_, _, ⟨0, c, [], rfl, rfl, Nat.zero_le _, rfl, ?_, trivial, ?_⟩, EnvB.of rfl⟩
    · exact ha
    · exact sep_empty2 hs
  clear ha hs
  rintro _ _ us _ h3 ⟨k, c, X, rfl, rfl, hk, hX, ha, hO, hs⟩ he
  refine W_spell he rfl ?_
  clear he
  unfold m32_l3
  by_cases hlt : k < G.length
  · have hn : (X.map Prod.fst ++ (G.map Prod.fst).drop k).length = G.length := by simp; omega
    obtain ⟨id, kd, rfl, rfl, hkd⟩ := ha.pos (by omega)
    have e1 : (X.map Prod.fst ++ (G.map Prod.fst).drop k).getD (k : Int).toNat lnE.dflt = atH G k := by
      show _ = (G.map Prod.fst).getD (k : Int).toNat lnE.dflt
      rw [Int.toNat_natCast, List.getD_eq_getElem?_getD, List.getD_eq_getElem?_getD, List.getElem?_append_right (by simp; omega), List.getElem?_drop]
      simp [hX]
    have hr : SlR cellE (Now h) ((X.map Prod.fst ++ (G.map Prod.fst).drop k).getD (k : Int).toNat lnE.dflt).v (atC G k) := by rw [e1]; exact hv.at hlt
    have hrl := atC_len hl2 hlt
    repeat' (first
      | (refine K_ops ?_; first
        | refine W_fastB rfl ?_
        | refine W_nil ?_
        | (refine K_call ?_; first
          | (refine W_callsN 48 rfl (w48 (SlR.now hs hr) hrl) rfl ?_; rintro _ h2 ⟨u2, c2, rfl, ha2, t⟩; replace hs := hs.call t; try simp only [cell_back, attr_back, List.set_cons_zero, List.set_cons_succ, List.eraseIdx_cons_succ, List.eraseIdx_zero, List.tail_cons, List.nil_append, List.cons_append] at hs; refine W_norm rfl ?_)
        )
        | (refine K_bin ?_; first
          | (refine W_add rfl rfl (IntWalk.i64_in _ (by first | omega | (simp only [List.length_set, List.length_append, List.length_take, List.length_drop, List.length_replicate, List.length_cons, List.length_nil, decs_length, List.length_map]; omega))) ?_; refine W_norm rfl ?_)
        )
        | (refine K_index ?_; first
          | (refine W_indexO rfl rfl ⟨(by first | omega | (simp only [List.length_set, List.length_append, List.length_take, List.length_drop, List.length_replicate, List.length_cons, List.length_nil, decs_length, List.length_map]; omega)), (by first | omega | (simp only [List.length_set, List.length_append, List.length_take, List.length_drop, List.length_replicate, List.length_cons, List.length_nil, decs_length, List.length_map]; omega))⟩ ?_; refine W_norm rfl ?_)
        )
        | (refine K_load ?_; first
          | (refine W_loadO hs 0 rfl rfl rfl (by first | omega | (simp only [List.length_set, List.length_append, List.length_take, List.length_drop, List.length_replicate, List.length_cons, List.length_nil, decs_length, List.length_map]; omega)) rfl ?_; refine W_norm rfl ?_)
        )
        | (refine K_store ?_; first
          | (refine W_storeOF hs 1 rfl rfl rfl rfl rfl (by first | omega | (simp only [List.length_set, List.length_append, List.length_take, List.length_drop, List.length_replicate, List.length_cons, List.length_nil, decs_length, List.length_map]; omega)) (by first | decide | assumption) rfl rfl rfl rfl ?_; clear hs; intro _ hs; try simp only [cell_back, attr_back, List.set_cons_zero, List.set_cons_succ, List.eraseIdx_cons_succ, List.eraseIdx_zero, List.tail_cons, List.nil_append, List.cons_append] at hs; refine W_norm rfl ?_)
        )
      )
      | (refine K_code ?_; first
        | refine W_seq ?_
        | refine W_ops ?_
        | (refine W_cond rfl (fun hc => ?_) (fun hc => ?_) <;> (try rw [hc]) <;> (try simp only [decide_eq_true_eq, decide_eq_false_iff_not, beq_iff_eq, beq_eq_false_iff_ne, bne_iff_ne, bne_eq_false_iff_eq, Bool.not_eq_true', Bool.not_eq_false', Int.not_lt, Int.not_le, ne_eq, reduceCtorEq, not_true_eq_false, not_false_eq_true, Decidable.not_not] at hc) <;> (try (exfalso; omega)) <;> (try refine W_norm rfl ?_))
        | refine W_skip ?_
        | refine W_block ?_
      )
      | refine seqK_n ?_
      | refine blockK_n ?_
      | refine invK_n ?_)
    have e2 : (X.map Prod.fst ++ (G.map Prod.fst).drop k).set (k : Int).toNat (lnE.dec [u2, .bool ((X.map Prod.fst ++ (G.map Prod.fst).drop k).getD (k : Int).toNat lnE.dflt).j, .bool ((X.map Prod.fst ++ (G.map Prod.fst).drop k).getD (k : Int).toNat lnE.dflt).s]) = (X ++ [((⟨u2, (atH G k).j, (atH G k).s⟩ : LnH), c2)]).map Prod.fst ++ (G.map Prod.fst).drop (k + 1) := by
      rw [e1, Int.toNat_natCast, List.set_append_right _ _ (by simp; omega), List.drop_eq_getElem_cons (by simp; omega), show k - (X.map Prod.fst).length = 0 by rw [List.length_map]; omega, List.set_cons_zero]
      simp [lnE]
    rw [e2] at hs
    refine ⟨_, ?_, _, ⟨k + 1, _, X ++ [((⟨u2, (atH G k).j, (atH G k).s⟩ : LnH), c2)], rfl, rfl, ?_, ?_, AccS.again hkd ?_, ?_, hs.perm ?_⟩, EnvB.of rfl⟩
    · omega
    · omega
    · simp [hX]
    · simp; omega
    · have e3 : (G.map lnOf).take (k + 1) = (G.map lnOf).take k ++ [atL G k] := by
        rw [List.take_add_one, lnOf_atH hlt]; rfl
      rw [e3]
      exact LR.append hO ⟨⟨ha2, rfl, rfl⟩, trivial⟩
    · simp only [List.flatten_cons, List.flatten_nil, List.append_nil, List.map_append, List.map_cons, List.map_nil, List.flatten_append]
      refine List.perm_append_comm.trans ?_
      rw [List.append_assoc]
  · repeat' (first
      | (refine K_ops ?_; first
        | refine W_fastB rfl ?_
        | refine W_nil ?_
      )
      | (refine K_code ?_; first
        | refine W_seq ?_
        | refine W_ops ?_
        | (refine W_cond rfl (fun hc => ?_) (fun hc => ?_) <;> (try rw [hc]) <;> (try simp only [decide_eq_true_eq, decide_eq_false_iff_not, beq_iff_eq, beq_eq_false_iff_ne, bne_iff_ne, bne_eq_false_iff_eq, Bool.not_eq_true', Bool.not_eq_false', Int.not_lt, Int.not_le, ne_eq, reduceCtorEq, not_true_eq_false, not_false_eq_true, Decidable.not_not] at hc) <;> (try (exfalso; omega)) <;> (try refine W_norm rfl ?_))
        | refine W_ret ?_
        | refine W_exit ?_
      )
      | refine seqK_n ?_
      | refine seqK_x ?_
      | refine blockK_e ?_
      | refine invK_x ?_
      | (refine fnK_r rfl ?_; try dsimp only [gd_z, gd_s]))
    obtain rfl : k = G.length := by omega
    rw [List.drop_of_length_le (by simp), List.append_nil] at ha
    rw [List.take_of_length_le (by simp)] at hO
    exact ⟨_, rfl, _, _, _, rfl, ha, hO, hs⟩

theorem w31 {g : LnH} {n : Nat} {h : Heap} (hv : Len g.v n) : Wc DD 31 [.agg (lnE.enc g)] h fun w h' => w = bo (decide (n = 0)) ∧ Sep (Now h) [] h' := by
  have hs := Sep.entry h
  refine W_enter d31 ?_
  show W _ (.code m31_code [.agg (lnE.enc g), undefA, undefA, undefA, undefA, undefA, undefA] _) _
  unfold m31_code
  repeat' (first
    | (refine K_ops ?_; first
      | refine W_fastB rfl ?_
      | refine W_nil ?_
      | (refine W_lenL rfl (by first | assumption | exact SlR.ln (by assumption) | exact AccS.ln (by assumption) | exact OwnS.ln (by assumption) | exact VwO.ln (by assumption) | exact OwnP.ln (by assumption) | exact Len.sl) ?_; refine W_norm rfl ?_)
      | (refine K_load ?_; first
        | (refine W_loadC hs 0 rfl rfl rfl ?_; refine W_norm rfl ?_)
      )
      | (refine W_boxS hs rfl rfl ?_; clear hs; intro bx _ hs; try simp only [cell_back, attr_back, List.set_cons_zero, List.set_cons_succ, List.eraseIdx_cons_succ, List.eraseIdx_zero, List.tail_cons, List.nil_append, List.cons_append] at hs; refine W_norm rfl ?_)
    )
    | (refine K_code ?_; first
      | refine W_seq ?_
      | refine W_ops ?_
      | refine W_ret ?_
    )
    | refine seqK_n ?_
    | (refine fnK_r rfl ?_; try dsimp only [gd_z, gd_s]))
  refine ⟨_, rfl, ?_, hs.none⟩
  refine congrArg (fun b => AV.sc (SV.bool b)) (Bool.eq_iff_iff.2 ?_)
  simp only [beq_iff_eq, decide_eq_true_eq]; omega
theorem atC_eq {G : List LnC} {i : Nat} (hi : i < G.length) : atC G i = (G[i]'hi).2 := by
  show (G.map Prod.snd).getD i [] = _
  rw [List.getD_eq_getElem?_getD, List.getElem?_map, List.getElem?_eq_getElem hi]; rfl
theorem mem_atC {G : List LnC} {g : LnC} (h : g ∈ G) : ∃ i, i < G.length ∧ atC G i = g.2 := by
  obtain ⟨i, hi, rfl⟩ := List.getElem_of_mem h
  exact ⟨i, hi, atC_eq hi⟩
theorem w46 {v : SV} {G : List LnC} {h : Heap} (hv : LnsR (Now h) v G) (hl : G.length ≤ 100000) : Wc DD 46 [.sc v, .sc (.func 31 [])] h fun w h' => (∃ r : Int, w = i64 r ∧ (-1 ≤ r ∧ r ≤ 100000) ∧ (0 ≤ r ↔ ∃ g ∈ G, g.2.length = 0)) ∧ Sep (Now h) [] h' := by
  have hs := Sep.entry h
  have hln := hv.ln
  have hGl : (G.map Prod.fst).length = G.length := List.length_map ..
  have hv1 := hv.1
  refine W_enter d46 ?_
  show W _ (.code m46_code [.sc v, .sc (.func 31 []), undefA, undefA, undefA, undefA, undefA, undefA, undefA, undefA, undefA, undefA, undefA, undefA, undefA, undefA, undefA, undefA, undefA] _) _
  unfold m46_code
  repeat' (first
    | (refine K_ops ?_; first
      | refine W_fastB rfl ?_
      | refine W_nil ?_
      | (refine W_lenL rfl (by first | assumption | exact SlR.ln (by assumption) | exact AccS.ln (by assumption) | exact OwnS.ln (by assumption) | exact VwO.ln (by assumption) | exact OwnP.ln (by assumption) | exact Len.sl) ?_; refine W_norm rfl ?_)
    )
    | (refine K_code ?_; first
      | refine W_seq ?_
      | refine W_ops ?_
      | refine W_block ?_
    )
    | refine seqK_n ?_)
  refine W_loopB [4, 5, 8, 9, 10, 11, 12, 13, 14, 15, 16, 17, 18] [0, 1, 2, 3, 4, 5, 6, 7, 8, 9, 10, 11, 12, 13, 14, 15, 16, 17, 18] (fun n' sl h' => ∃ (k : Nat), sl = [(7, .sc (.int .i64 (G.length : Int))), (8, .sc (.int .i64 (k : Int)))] ∧ n' = G.length - k ∧ k ≤ G.length ∧ (∀ i, i < k → (atC G i).length ≠ 0) ∧ Sep (Now h) [] h') ?_ ?_
  · refine ⟨_, _, ⟨0, rfl, rfl, Nat.zero_le _, fun i hi => absurd hi (by omega), hs⟩, EnvB.of rfl⟩
  clear hs
  rintro _ _ us _ h3 ⟨k, rfl, rfl, hk, hz, hs⟩ he
  refine W_spell he rfl ?_
  clear he
  unfold m46_l2
  by_cases hlt : k < G.length
  · have hr := (hv.at hlt).ln
    repeat' (first
      | (refine K_ops ?_; first
        | refine W_fastB rfl ?_
        | refine W_nil ?_
        | (refine W_callvN 31 rfl rfl (w31 hr) rfl ?_; rintro _ h2 ⟨rfl, t⟩; replace hs := hs.call t; try simp only [cell_back, attr_back, List.set_cons_zero, List.set_cons_succ, List.eraseIdx_cons_succ, List.eraseIdx_zero, List.tail_cons, List.nil_append, List.cons_append] at hs; refine W_norm rfl ?_)
        | (refine K_bin ?_; first
          | (refine W_add rfl rfl (IntWalk.i64_in _ (by first | omega | (simp only [List.length_set, List.length_append, List.length_take, List.length_drop, List.length_replicate, List.length_cons, List.length_nil, decs_length, List.length_map]; omega))) ?_; refine W_norm rfl ?_)
        )
        | (refine K_index ?_; first
          | (refine W_indexR rfl rfl (by assumption) rfl ⟨(by first | omega | (simp only [List.length_set, List.length_append, List.length_take, List.length_drop, List.length_replicate, List.length_cons, List.length_nil, decs_length, List.length_map]; omega)), (by first | omega | (simp only [List.length_set, List.length_append, List.length_take, List.length_drop, List.length_replicate, List.length_cons, List.length_nil, decs_length, List.length_map]; omega))⟩ ?_; intro _ _ _; refine W_norm rfl ?_)
        )
        | (refine K_load ?_; first
          | (refine W_loadRA hs rfl (by assumption) rfl ?_; refine W_norm rfl ?_)
        )
      )
      | (refine K_code ?_; first
        | refine W_seq ?_
        | refine W_ops ?_
        | (refine W_cond rfl (fun hc => ?_) (fun hc => ?_) <;> (try rw [hc]) <;> (try simp only [decide_eq_true_eq, decide_eq_false_iff_not, beq_iff_eq, beq_eq_false_iff_ne, bne_iff_ne, bne_eq_false_iff_eq, Bool.not_eq_true', Bool.not_eq_false', Int.not_lt, Int.not_le, ne_eq, reduceCtorEq, not_true_eq_false, not_false_eq_true, Decidable.not_not] at hc) <;> (try (exfalso; omega)) <;> (try refine W_norm rfl ?_))
        | refine W_skip ?_
        | refine W_ret ?_
        | refine W_block ?_
      )
      | refine seqK_n ?_
      | refine seqK_r ?_
      | refine blockK_r ?_
      | refine blockK_n ?_
      | refine invK_r ?_
      | refine invK_n ?_
      | (refine fnK_r rfl ?_; try dsimp only [gd_z, gd_s]))
    · exact ⟨_, rfl, ⟨_, rfl, by omega, fun _ => ⟨_, List.getElem_mem hlt, by rw [← atC_eq hlt]; exact hc⟩, fun _ => by omega⟩, hs⟩
    · refine ⟨_, ?_, _, ⟨k + 1, rfl, rfl, ?_, ?_, hs⟩, EnvB.of rfl⟩
      · omega
      · omega
      · intro i hi
        by_cases e : i = k
        · subst e; exact hc
        · exact hz i (by omega)
  · repeat' (first
      | (refine K_ops ?_; first
        | refine W_fastB rfl ?_
        | refine W_nil ?_
      )
      | (refine K_code ?_; first
        | refine W_seq ?_
        | refine W_ops ?_
        | (refine W_cond rfl (fun hc => ?_) (fun hc => ?_) <;> (try rw [hc]) <;> (try simp only [decide_eq_true_eq, decide_eq_false_iff_not, beq_iff_eq, beq_eq_false_iff_ne, bne_iff_ne, bne_eq_false_iff_eq, Bool.not_eq_true', Bool.not_eq_false', Int.not_lt, Int.not_le, ne_eq, reduceCtorEq, not_true_eq_false, not_false_eq_true, Decidable.not_not] at hc) <;> (try (exfalso; omega)) <;> (try refine W_norm rfl ?_))
        | refine W_ret ?_
        | refine W_exit ?_
      )
      | refine seqK_n ?_
      | refine seqK_x ?_
      | refine blockK_e ?_
      | refine invK_x ?_
      | (refine fnK_r rfl ?_; try dsimp only [gd_z, gd_s]))
    refine ⟨_, rfl, ⟨_, rfl, by omega, fun hh => absurd hh (by omega), ?_⟩, hs⟩
    rintro ⟨g, hg, h0⟩
    obtain ⟨i, hi, e⟩ := mem_atC hg
    exact absurd (by rw [e]; exact h0) (hz i (by omega))
theorem w30 {v : SV} {G : List LnC} {h : Heap} (hv : LnsR (Now h) v G) (hl : G.length ≤ 100000) : Wc DD 30 [.sc v, .sc (.func 31 [])] h fun w h' => w = bo (decide (∃ g ∈ G, g.2.length = 0)) ∧ Sep (Now h) [] h' := by
  have hs := Sep.entry h
  refine W_enter d30 ?_
  show W _ (.code m30_code [.sc v, .sc (.func 31 []), undefA, undefA, undefA, undefA, undefA, undefA, undefA] _) _
  unfold m30_code
  repeat' (first
    | (refine K_ops ?_; first
      | refine W_fastB rfl ?_
      | refine W_nil ?_
      | (refine K_call ?_; first
        | (refine W_callsN 46 rfl (w46 (hv.now hs) hl) rfl ?_; rintro _ h2 ⟨⟨r, rfl, hr, hr2⟩, t⟩; replace hs := hs.call t; try simp only [cell_back, attr_back, List.set_cons_zero, List.set_cons_succ, List.eraseIdx_cons_succ, List.eraseIdx_zero, List.tail_cons, List.nil_append, List.cons_append] at hs; refine W_norm rfl ?_)
      )
    )
    | (refine K_code ?_; first
      | refine W_seq ?_
      | refine W_ops ?_
      | refine W_ret ?_
    )
    | refine seqK_n ?_
    | (refine fnK_r rfl ?_; try dsimp only [gd_z, gd_s]))
  refine ⟨_, rfl, ?_, hs⟩
  refine congrArg (fun b => AV.sc (SV.bool b)) (Bool.eq_iff_iff.2 ?_)
  simp only [decide_eq_true_eq]
  exact hr2

/-- May there be a view? -/
def okB (L : List Ln) (h : Int) : Prop := 1 ≤ L.length ∧ L.length ≤ 900 ∧ 1 ≤ h ∧ h ≤ 400 ∧ ∀ l ∈ L, l.cells.length ≠ 0
theorem any_map {G : List LnC} : (∃ g ∈ G, g.2.length = 0) ↔ ¬ ∀ l ∈ G.map lnOf, l.cells.length ≠ 0 := by
  constructor
  · rintro ⟨g, hg, h⟩ hh
    exact hh _ (List.mem_map_of_mem hg) h
  · intro hh
    refine Classical.byContradiction fun hn => hh fun l hl => ?_
    obtain ⟨g, hg, rfl⟩ := List.mem_map.1 hl
    exact fun h0 => hn ⟨g, hg, h0⟩
theorem OwnX.lns {X : List (LnH × Hp)} {L : List Ln} {R : Ro} {u : SV} {c : Hp} (ha : AccS lnE 27 u (X.map Prod.fst) c) (hO : OwnX X L) (hc : ∀ p ∈ c ++ (X.map Prod.snd).flatten, R p.1 p.2) :
    ∃ G : List LnC, LnsR R u G ∧ G.map lnOf = L ∧ G.map Prod.fst = X.map Prod.fst := by
  have key : ∀ (X : List (LnH × Hp)) (L : List Ln), OwnX X L → (∀ p ∈ (X.map Prod.snd).flatten, R p.1 p.2) → ∃ G : List LnC, G.map Prod.fst = X.map Prod.fst ∧ G.map lnOf = L ∧ ∀ g ∈ G, SlR cellE R g.1.v g.2 := by
    intro X
    induction X with
    | nil => intro L h _; cases L with
      | nil => exact ⟨[], rfl, rfl, fun g hg => by cases hg⟩
      | cons _ _ => exact h.elim
    | cons x X ih => intro L h hp; cases L with
      | nil => exact h.elim
      | cons l L =>
        obtain ⟨⟨h1, h2, h3⟩, h4⟩ := h
        obtain ⟨G, g1, g2, g3⟩ := ih L h4 (fun p hp' => hp p (by simp only [List.map_cons, List.flatten_cons, List.mem_append]; exact .inr hp'))
        refine ⟨(x.1, l.cells) :: G, by simp [g1], ?_, fun g hg => ?_⟩
        · simp only [List.map_cons, g2, lnOf, h2, h3]
        · rcases List.mem_cons.1 hg with rfl | hg
          · exact h1.1.inR fun p hp' => hp p (by simp only [List.map_cons, List.flatten_cons, List.mem_append]; exact .inl hp')
          · exact g3 g hg
  obtain ⟨G, g1, g2, g3⟩ := key X L hO (fun p hp => hc p (List.mem_append_right _ hp))
  exact ⟨G, ⟨by rw [g1]; exact ha.1.inR fun p hp => hc p (List.mem_append_left _ hp), g3⟩, g2, g1⟩
theorem w11 {v : SV} {G : List LnC} {h : Heap} {n : Int} (hv : LnsR (Now h) v G) (hl : G.length ≤ 100000) (hl2 : ∀ g ∈ G, g.2.length ≤ 100000) (hn : -9223372036854775808 ≤ n ∧ n ≤ 9223372036854775807) :
    Wc DD 11 [.sc v, i64 n] h fun w h' => (¬ okB (G.map lnOf) n ∧ w = .tup [.sc .nilp, i64 1] ∧ Sep (Now h) [] h') ∨
      (okB (G.map lnOf) n ∧ ∃ id u c X, w = .tup [.sc (.ptr id 0), i64 0] ∧ AccS lnE 27 u (X.map Prod.fst) c ∧ OwnX X (G.map lnOf) ∧ Sep (Now h) [vwO id u .nilp (newV (G.map lnOf) n), c, (X.map Prod.snd).flatten] h') := by
  have hs := Sep.entry h
  have hln := hv.ln
  have hGm : (G.map lnOf).length = G.length := List.length_map ..
  refine W_enter d11 ?_
  show W _ (.code m11_code [.sc v, i64 n, undefA, undefA, undefA, undefA, undefA, undefA, undefA, undefA, undefA, undefA, undefA, undefA, undefA, undefA, undefA, undefA, undefA, undefA, undefA, undefA, undefA, undefA, undefA, undefA, undefA, undefA, undefA, undefA, undefA, undefA, undefA, undefA, undefA, undefA, undefA, undefA, undefA, undefA, undefA, undefA, undefA, undefA, undefA] _) _
  unfold m11_code
  repeat' (first
    | (refine K_ops ?_; first
      | refine W_fastB rfl ?_
      | refine W_nil ?_
      | (refine K_guard ?_; first
        | refine W_guard_on rfl ?_
        | refine W_guard_off rfl rfl (W_norm rfl ?_)
        | (refine W_guardF rfl (fun hc => ?_) (fun hc => ?_) <;> (try rw [hc]) <;> (try simp only [decide_eq_true_eq, decide_eq_false_iff_not, beq_iff_eq, beq_eq_false_iff_ne, bne_iff_ne, bne_eq_false_iff_eq, Bool.not_eq_true', Bool.not_eq_false', Int.not_lt, Int.not_le, ne_eq, reduceCtorEq, not_true_eq_false, not_false_eq_true, Decidable.not_not] at hc) <;> (try (exfalso; omega)) <;> (try refine W_norm rfl ?_))
      )
      | (refine K_call ?_; first
        | (refine W_callsN 30 rfl (w30 (hv.now hs) hl) rfl ?_; rintro _ h2 ⟨rfl, t⟩; replace hs := hs.call t; try simp only [cell_back, attr_back, List.set_cons_zero, List.set_cons_succ, List.eraseIdx_cons_succ, List.eraseIdx_zero, List.tail_cons, List.nil_append, List.cons_append] at hs; refine W_norm rfl ?_)
        | (refine W_callsN 32 rfl (w32 (hv.now hs) hl hl2) rfl ?_; rintro _ h2 ⟨u, c, X, rfl, ha, hO, t⟩; replace hs := hs.call t; try simp only [cell_back, attr_back, List.set_cons_zero, List.set_cons_succ, List.eraseIdx_cons_succ, List.eraseIdx_zero, List.tail_cons, List.nil_append, List.cons_append] at hs; refine W_norm rfl ?_)
      )
      | (refine W_lenL rfl (by first | assumption | exact SlR.ln (by assumption) | exact AccS.ln (by assumption) | exact OwnS.ln (by assumption) | exact VwO.ln (by assumption) | exact OwnP.ln (by assumption) | exact Len.sl) ?_; refine W_norm rfl ?_)
      | (refine K_bin ?_; first
        | (refine W_sub rfl rfl (IntWalk.i64_in _ (by first | omega | (simp only [List.length_set, List.length_append, List.length_take, List.length_drop, List.length_replicate, List.length_cons, List.length_nil, decs_length, List.length_map]; omega))) ?_; refine W_norm rfl ?_)
      )
      | (refine K_pick ?_; first
        | refine W_pick_t rfl rfl (W_norm rfl ?_)
        | refine W_pick_f rfl rfl (W_norm rfl ?_)
      )
      | (refine K_store ?_; first
        | (refine W_storeC hs 0 rfl rfl rfl rfl (by first | decide | assumption) rfl rfl ?_; clear hs; intro _ hs; try simp only [cell_back, attr_back, List.set_cons_zero, List.set_cons_succ, List.eraseIdx_cons_succ, List.eraseIdx_zero, List.tail_cons, List.nil_append, List.cons_append] at hs; refine W_norm rfl ?_)
      )
      | (refine W_boxS hs rfl rfl ?_; clear hs; intro bx _ hs; try simp only [cell_back, attr_back, List.set_cons_zero, List.set_cons_succ, List.eraseIdx_cons_succ, List.eraseIdx_zero, List.tail_cons, List.nil_append, List.cons_append] at hs; refine W_norm rfl ?_)
      | (refine W_buildN rfl ?_; refine W_norm rfl ?_)
      | (refine W_max2 rfl rfl ?_; refine W_norm rfl ?_)
    )
    | (refine K_code ?_; first
      | refine W_seq ?_
      | refine W_ops ?_
      | refine W_cond_t rfl ?_
      | (refine W_cond rfl (fun hc => ?_) (fun hc => ?_) <;> (try rw [hc]) <;> (try simp only [decide_eq_true_eq, decide_eq_false_iff_not, beq_iff_eq, beq_eq_false_iff_ne, bne_iff_ne, bne_eq_false_iff_eq, Bool.not_eq_true', Bool.not_eq_false', Int.not_lt, Int.not_le, ne_eq, reduceCtorEq, not_true_eq_false, not_false_eq_true, Decidable.not_not] at hc) <;> (try (exfalso; omega)) <;> (try refine W_norm rfl ?_))
      | refine W_skip ?_
      | refine W_ret ?_
    )
    | refine seqK_n ?_
    | refine seqK_r ?_
    | (refine fnK_r rfl ?_; try dsimp only [gd_z, gd_s]))
  all_goals first
    | exact ⟨_, rfl, .inl ⟨fun ⟨a1, a2, a3, a4, a5⟩ => (any_map.1 (by assumption)) a5, rfl, hs⟩⟩
    | exact ⟨_, rfl, .inl ⟨fun ⟨a1, a2, a3, a4, a5⟩ => by omega, rfl, hs⟩⟩
    | (refine ⟨_, rfl, .inr ⟨⟨by omega, by omega, by omega, by omega, Classical.byContradiction fun hh => hc (any_map.2 hh)⟩, _, u, c, X, rfl, ha, hO, ?_⟩⟩
       simp only [newV, hGm]
       exact hs)
    | skip
/-- Lines that stand in parts of one's own. -/
theorem LnsR.cut {R : Ro} {v v' : SV} {G : List LnC} {n m : Nat} (q : SlR lnE R v' (((G.map Prod.fst).take n).drop m)) (p : LnsR R v G) : LnsR R v' ((G.take n).drop m) := ⟨by rw [List.map_drop, List.map_take]; exact q, fun g hg => p.2 g (List.mem_of_mem_take (List.mem_of_mem_drop hg))⟩
def seenV (v : Vw) : List Ln := (v.L.take (min (v.top + v.h) v.L.length).toNat).drop v.top.toNat
theorem w22 {R : Ro} {M : List Hp} {h : Heap} {id : Nat} {lv mk : SV} {v : Vw} {G : List LnC} (hs : Sep R (vwO id lv mk v :: M) h) (hG : VwR R lv mk v G) (ok : OkV v) :
    Wc DD 22 [.sc (.ptr id 0)] h fun w h' => ∃ u c X, w = .sc u ∧ AccS lnE 27 u (X.map Prod.fst) c ∧ OwnX X (seenV v) ∧ Sep R (c :: (X.map Prod.snd).flatten :: vwO id lv mk v :: M) h' := by
  have hl := hG.ln
  have hlen := hG.len
  have ok1 := ok.l.len
  have ok2 := ok.l.big
  have ht := ok.t0
  have ht1 := ok.t1
  have hy1 := ok.y1
  have hh := ok.l.h1
  have hh2 := ok.l.h2
  have hln := hG.lns.1
  have hGl : (G.map Prod.fst).length = v.L.length := by rw [List.length_map]; exact hlen
  refine W_enter d22 ?_
  show W _ (.code m22_code [.sc (.ptr id 0), undefA, undefA, undefA, undefA, undefA, undefA, undefA, undefA, undefA, undefA, undefA, undefA, undefA, undefA, undefA, undefA, undefA, undefA, undefA, undefA, undefA, undefA, undefA, undefA, undefA, undefA, undefA, undefA, undefA] _) _
  unfold m22_code
  have hcl : ∀ g ∈ G, g.2.length ≤ 1000 := fun g hg => (ok.l.cells (lnOf g) (by rw [← hG.map]; exact List.mem_map_of_mem hg)).2
  repeat' (first
    | (refine K_ops ?_; first
      | refine W_fastB rfl ?_
      | refine W_nil ?_
      | (refine K_call ?_; first
        | (refine W_callsN 33 rfl (w33 hs hl ok1) rfl ?_; rintro _ h ⟨rfl, rfl⟩; refine W_norm rfl ?_)
        | (refine W_callsN 32 rfl (w32 ((LnsR.cut (by assumption) hG.lns).now hs) (by simp; omega) (fun g hg => Nat.le_trans (hcl g (List.mem_of_mem_take (List.mem_of_mem_drop hg))) (by omega))) rfl ?_; rintro _ h2 ⟨u, c, X, rfl, ha, hO, t⟩; replace hs := hs.call t; try simp only [cell_back, attr_back, List.set_cons_zero, List.set_cons_succ, List.eraseIdx_cons_succ, List.eraseIdx_zero, List.tail_cons, List.nil_append, List.cons_append] at hs; refine W_norm rfl ?_)
      )
      | (refine W_lenL rfl (by first | assumption | exact SlR.ln (by assumption) | exact AccS.ln (by assumption) | exact OwnS.ln (by assumption) | exact VwO.ln (by assumption) | exact OwnP.ln (by assumption) | exact Len.sl) ?_; refine W_norm rfl ?_)
      | (refine K_bin ?_; first
        | (refine W_add rfl rfl (IntWalk.i64_in _ (by first | omega | (simp only [List.length_set, List.length_append, List.length_take, List.length_drop, List.length_replicate, List.length_cons, List.length_nil, decs_length, List.length_map]; omega))) ?_; refine W_norm rfl ?_)
      )
      | (refine K_load ?_; first
        | (refine W_loadC hs 0 rfl rfl rfl ?_; refine W_norm rfl ?_)
      )
      | (refine K_slice ?_; first
        | (refine W_sliceR rfl rfl rfl (by assumption) rfl ⟨(by first | omega | (simp only [List.length_set, List.length_append, List.length_take, List.length_drop, List.length_replicate, List.length_cons, List.length_nil, decs_length, List.length_map]; omega)), (by first | omega | (simp only [List.length_set, List.length_append, List.length_take, List.length_drop, List.length_replicate, List.length_cons, List.length_nil, decs_length, List.length_map]; omega)), (by first | omega | (simp only [List.length_set, List.length_append, List.length_take, List.length_drop, List.length_replicate, List.length_cons, List.length_nil, decs_length, List.length_map]; omega))⟩ ?_; intro _ _; refine W_norm rfl ?_)
      )
      | (refine W_min2 rfl rfl ?_; refine W_norm rfl ?_)
    )
    | (refine K_code ?_; first
      | refine W_seq ?_
      | refine W_ops ?_
      | refine W_cond_f rfl ?_
      | refine W_skip ?_
      | refine W_ret ?_
      | refine W_draw rfl ?_
    )
    | refine seqK_n ?_
    | (refine fnK_r rfl ?_; try dsimp only [gd_z, gd_s]))
  refine ⟨_, rfl, _, _, _, rfl, ha, ?_, hs⟩
  unfold seenV
  rw [← hG.map]
  rw [List.map_drop, List.map_take] at hO
  rw [List.length_map, hlen]
  exact hO
end Go.Proofs.YtbkhjpclnfljbaaDoor
/- Views: where a line begins a text. -/
set_option linter.unusedSimpArgs false
set_option linter.unusedVariables false
set_option maxHeartbeats 1000000
set_option maxRecDepth 100000
namespace Go.Proofs.YtbkhjpclnfljbaaDoor
open Go Go.Jx

def spotV (p : Spot) : AV := .agg [.int .i64 p.1, .int .i64 p.2]
theorem w36 (a b : Spot) (h : Heap) : Wc DD 36 [spotV a, spotV b] h fun w h' => w = bo (bef a b) ∧ Sep (Now h) [] h' := by
  have hs := Sep.entry h
  unfold spotV
  refine W_enter d36 ?_
  show W _ (.code m36_code [.agg [.int .i64 a.1, .int .i64 a.2], .agg [.int .i64 b.1, .int .i64 b.2], undefA, undefA, undefA, undefA, undefA, undefA, undefA, undefA, undefA, undefA, undefA, undefA, undefA, undefA, undefA, undefA, undefA, undefA, undefA, undefA, undefA, undefA] _) _
  unfold m36_code
  repeat' (first
    | (refine K_ops ?_; first
      | refine W_fastB rfl ?_
      | refine W_nil ?_
      | (refine K_guard ?_; first
        | refine W_guard_on rfl ?_
        | refine W_guard_off rfl rfl (W_norm rfl ?_)
        | refine W_guard_u rfl (W_norm rfl ?_)
        | (refine W_guardT rfl (fun hc => ?_) (fun hc => ?_) <;> (try rw [hc]) <;> (try simp only [decide_eq_true_eq, decide_eq_false_iff_not, beq_iff_eq, beq_eq_false_iff_ne, bne_iff_ne, bne_eq_false_iff_eq, Bool.not_eq_true', Bool.not_eq_false', Int.not_lt, Int.not_le, ne_eq, reduceCtorEq, not_true_eq_false, not_false_eq_true, Decidable.not_not] at hc) <;> (try (exfalso; omega)) <;> (try refine W_norm rfl ?_))
        | (refine W_guardF rfl (fun hc => ?_) (fun hc => ?_) <;> (try rw [hc]) <;> (try simp only [decide_eq_true_eq, decide_eq_false_iff_not, beq_iff_eq, beq_eq_false_iff_ne, bne_iff_ne, bne_eq_false_iff_eq, Bool.not_eq_true', Bool.not_eq_false', Int.not_lt, Int.not_le, ne_eq, reduceCtorEq, not_true_eq_false, not_false_eq_true, Decidable.not_not] at hc) <;> (try (exfalso; omega)) <;> (try refine W_norm rfl ?_))
      )
      | (refine K_pick ?_; first
        | refine W_pick_t rfl rfl (W_norm rfl ?_)
        | refine W_pick_f rfl rfl (W_norm rfl ?_)
      )
      | (refine K_load ?_; first
        | (refine W_loadC hs 0 rfl rfl rfl ?_; refine W_norm rfl ?_)
        | (refine W_loadC hs 1 rfl rfl rfl ?_; refine W_norm rfl ?_)
      )
      | (refine W_boxS hs rfl rfl ?_; clear hs; intro bx _ hs; try simp only [cell_back, attr_back, List.set_cons_zero, List.set_cons_succ, List.eraseIdx_cons_succ, List.eraseIdx_zero, List.tail_cons, List.nil_append, List.cons_append] at hs; refine W_norm rfl ?_)
    )
    | (refine K_code ?_; first
      | refine W_seq ?_
      | refine W_ops ?_
      | refine W_ret ?_
    )
    | refine seqK_n ?_
    | (refine fnK_r rfl ?_; try dsimp only [gd_z, gd_s]))
  all_goals refine ⟨_, rfl, ?_, hs.none⟩
  all_goals unfold bef
  all_goals refine congrArg (fun b => AV.sc (SV.bool b)) (Bool.eq_iff_iff.2 ?_)
  all_goals simp only [beq_iff_eq, decide_eq_true_eq, Bool.false_eq_true, true_iff, false_iff]
  all_goals omega
theorem w49 {R : Ro} {M : List Hp} {h : Heap} {id : Nat} {p v : SV} {s : List UInt8} {c : Hp} (hs : Sep R ([(id, .cells 83 .own [p, v])] :: M) h) (hb : Bld id p v s c) :
    Wc DD 49 [.sc (.ptr id 0)] h fun w h' => w = i64 s.length ∧ h' = h := by
  obtain ⟨h1, h2, h3⟩ := hb
  have hln := h2.ln
  have hil := intsB_length s
  rw [hil] at hln
  refine W_enter d49 ?_
  show W _ (.code m49_code [.sc (.ptr id 0), undefA, undefA, undefA, undefA, undefA, undefA, undefA] _) _
  unfold m49_code
  repeat' (first
    | (refine K_ops ?_; first
      | refine W_fastB rfl ?_
      | refine W_nil ?_
      | (refine W_lenL rfl (by first | assumption | exact SlR.ln (by assumption) | exact AccS.ln (by assumption) | exact OwnS.ln (by assumption) | exact VwO.ln (by assumption) | exact OwnP.ln (by assumption) | exact Len.sl) ?_; refine W_norm rfl ?_)
      | (refine K_load ?_; first
        | (refine W_loadC hs 0 rfl rfl rfl ?_; refine W_norm rfl ?_)
      )
    )
    | (refine K_code ?_; first
      | refine W_seq ?_
      | refine W_ops ?_
      | refine W_ret ?_
    )
    | refine seqK_n ?_
    | (refine fnK_r rfl ?_; try dsimp only [gd_z, gd_s]))
  exact ⟨_, rfl, rfl, rfl⟩
theorem prefix_take (t s : List UInt8) : t.isPrefixOf s = true ↔ t.length ≤ s.length ∧ s.take t.length = t := by
  rw [List.isPrefixOf_iff_prefix, List.prefix_iff_eq_take]
  constructor
  · intro h
    have := congrArg List.length h
    rw [List.length_take] at this
    exact ⟨by omega, h.symm⟩
  · exact fun h => h.2.symm
theorem w58 (s t : List UInt8) (h : Heap) (hl : s.length ≤ 900000000) (ht : t.length ≤ 900000000) : Wc DD 58 [.sc (.str s), .sc (.str t)] h fun w h' => w = bo (t.isPrefixOf s) ∧ h' = h := by
  have hs := Sep.entry h
  refine W_enter d58 ?_
  show W _ (.code m58_code [.sc (.str s), .sc (.str t), undefA, undefA, undefA, undefA, undefA, undefA, undefA, undefA, undefA, undefA, undefA, undefA, undefA, undefA, undefA, undefA] _) _
  unfold m58_code
  repeat' (first
    | (refine K_ops ?_; first
      | refine W_fastB rfl ?_
      | refine W_nil ?_
      | (refine K_guard ?_; first
        | refine W_guard_on rfl ?_
        | refine W_guard_off rfl rfl (W_norm rfl ?_)
        | (refine W_guardT rfl (fun hc => ?_) (fun hc => ?_) <;> (try rw [hc]) <;> (try simp only [decide_eq_true_eq, decide_eq_false_iff_not, beq_iff_eq, beq_eq_false_iff_ne, bne_iff_ne, bne_eq_false_iff_eq, Bool.not_eq_true', Bool.not_eq_false', Int.not_lt, Int.not_le, ne_eq, reduceCtorEq, not_true_eq_false, not_false_eq_true, Decidable.not_not] at hc) <;> (try (exfalso; omega)) <;> (try refine W_norm rfl ?_))
      )
      | (refine K_pick ?_; first
        | refine W_pick_t rfl rfl (W_norm rfl ?_)
        | refine W_pick_f rfl rfl (W_norm rfl ?_)
      )
      | (refine W_sliceStrTo rfl rfl ⟨(by first | omega | (simp only [List.length_set, List.length_append, List.length_take, List.length_drop, List.length_replicate, List.length_cons, List.length_nil, decs_length, List.length_map]; omega)), (by first | omega | (simp only [List.length_set, List.length_append, List.length_take, List.length_drop, List.length_replicate, List.length_cons, List.length_nil, decs_length, List.length_map]; omega))⟩ ?_; refine W_norm rfl ?_)
    )
    | (refine K_code ?_; first
      | refine W_seq ?_
      | refine W_ops ?_
      | refine W_ret ?_
    )
    | refine seqK_n ?_
    | (refine fnK_r rfl ?_; try dsimp only [gd_z, gd_s]))
  · refine ⟨_, rfl, ?_, rfl⟩
    refine congrArg (fun b => AV.sc (SV.bool b)) (Bool.eq_iff_iff.2 ?_)
    rw [prefix_take, Int.toNat_natCast, beq_iff_eq]
    exact ⟨fun hh => ⟨by omega, hh⟩, fun hh => hh.2⟩
  · refine ⟨_, rfl, ?_, rfl⟩
    refine congrArg (fun b => AV.sc (SV.bool b)) (Bool.eq_iff_iff.2 ?_)
    rw [prefix_take]
    simp only [Bool.false_eq_true, false_iff]
    omega
theorem w51 (s t : List UInt8) (h : Heap) (hl : s.length ≤ 900000000) (ht : t.length ≤ 900000000) : Wc DD 51 [.sc (.str s), .sc (.str t)] h fun w h' => w = bo (t.isPrefixOf s) ∧ h' = h := by
  have hs := Sep.entry h
  refine W_enter d51 ?_
  show W _ (.code m51_code [.sc (.str s), .sc (.str t), undefA, undefA, undefA, undefA, undefA, undefA] _) _
  unfold m51_code
  repeat' (first
    | (refine K_ops ?_; first
      | refine W_fastB rfl ?_
      | refine W_nil ?_
      | (refine K_call ?_; first
        | (refine W_callsN 58 rfl (w58 s t _ hl ht) rfl ?_; rintro _ h ⟨rfl, rfl⟩; refine W_norm rfl ?_)
      )
    )
    | (refine K_code ?_; first
      | refine W_seq ?_
      | refine W_ops ?_
      | refine W_ret ?_
    )
    | refine seqK_n ?_
    | (refine fnK_r rfl ?_; try dsimp only [gd_z, gd_s]))
  exact ⟨_, rfl, rfl, rfl⟩

/-- The cells that are no second ones. -/
def firstsL (C : List Cell) (k : Nat) : List Nat := (List.range k).filter fun x => decide ((C.getD x cell0).w ≠ 2)
theorem firstsL_succ (C : List Cell) (k : Nat) : firstsL C (k + 1) = firstsL C k ++ (if (C.getD k cell0).w ≠ 2 then [k] else []) := by
  unfold firstsL
  rw [List.range_succ, List.filter_append]
  congr 1
  by_cases h : (C.getD k cell0).w ≠ 2
  · rw [if_pos h, List.filter_cons, if_pos (by rw [decide_eq_true_eq]; exact h)]; rfl
  · rw [if_neg h, List.filter_cons, if_neg (by rw [decide_eq_true_eq]; exact h)]; rfl
theorem firstsL_le (C : List Cell) (k : Nat) : (firstsL C k).length ≤ k := by
  have := List.length_filter_le (fun x => decide ((C.getD x cell0).w ≠ 2)) (List.range k)
  simpa [firstsL] using this
def atsL (C : List Cell) (k : Nat) : List Int := (firstsL C k).map fun (x : Nat) => ((textB (C.take x)).length : Int)
def cellsL (C : List Cell) (k : Nat) : List Int := (firstsL C k).map fun (x : Nat) => (x : Int)
theorem textB_take {C : List Cell} {k : Nat} (h : k < C.length) : textB (C.take (k + 1)) = textB (C.take k) ++ (if (C.getD k cell0).w = 2 then [] else utf8 (C.getD k cell0).r) := by
  rw [List.take_add_one, getD_get? (d := cell0) h]
  exact textB_snoc _ _
theorem textB_cut (C : List Cell) (x : Nat) : (textB C).drop (textB (C.take x)).length = textB (C.drop x) := by
  have : textB C = textB (C.take x) ++ textB (C.drop x) := by
    unfold textB
    rw [← List.flatMap_append, List.take_append_drop]
  rw [this, List.drop_left]
/-- Those of the first ones that begin a text. -/
theorem begL_eq (C : List Cell) (t : List UInt8) : begL C t = (firstsL C C.length).filter fun x => t.isPrefixOf (textB (C.drop x)) := by
  unfold begL firstsL begB
  rw [List.filter_filter]
  congr 1
  funext x
  rw [Bool.and_comm]
theorem w35 {g : LnH} {C : List Cell} {t : List UInt8} {h : Heap} (hv : SlR cellE (Now h) g.v C) (hl : C.length ≤ 1000) (hr : ∀ c ∈ C, -2147483648 ≤ c.r ∧ c.r ≤ 2147483647) (ht : t.length ≤ 900000000) :
    Wc DD 35 [.agg (lnE.enc g), .sc (.str t)] h fun w h' => ∃ u c, w = .sc u ∧ AccS (intEl .i64) 3 u ((begL C t).map fun (x : Nat) => (x : Int)) c ∧ Sep (Now h) [c] h' := by
  have hs := Sep.entry h
  have hln := hv.ln
  refine W_enter d35 ?_
  show W _ (.code m35_code [.agg (lnE.enc g), .sc (.str t), undefA, undefA, undefA, undefA, undefA, undefA, undefA, undefA, undefA, undefA, undefA, undefA, undefA, undefA, undefA, undefA, undefA, undefA, undefA, undefA, undefA, undefA, undefA, undefA, undefA, undefA, undefA, undefA, undefA, undefA, undefA, undefA, undefA, undefA, undefA, undefA, undefA, undefA, undefA, undefA, undefA, undefA, undefA, undefA, undefA, undefA, undefA, undefA, undefA, undefA, undefA, undefA, undefA, undefA, undefA, undefA, undefA] _) _
  unfold m35_code
  repeat' (first
    | (refine K_ops ?_; first
      | refine W_fastB rfl ?_
      | refine W_nil ?_
      | (refine W_lenL rfl (by first | assumption | exact SlR.ln (by assumption) | exact AccS.ln (by assumption) | exact OwnS.ln (by assumption) | exact VwO.ln (by assumption) | exact OwnP.ln (by assumption) | exact Len.sl) ?_; refine W_norm rfl ?_)
      | (refine K_load ?_; first
        | (refine W_loadC hs 1 rfl rfl rfl ?_; refine W_norm rfl ?_)
      )
      | (refine W_allocS hs ?_; clear hs; intro al _ hs; try simp only [cell_back, attr_back, List.set_cons_zero, List.set_cons_succ, List.eraseIdx_cons_succ, List.eraseIdx_zero, List.tail_cons, List.nil_append, List.cons_append] at hs; refine W_norm rfl ?_)
      | (refine W_boxS hs rfl rfl ?_; clear hs; intro bx _ hs; try simp only [cell_back, attr_back, List.set_cons_zero, List.set_cons_succ, List.eraseIdx_cons_succ, List.eraseIdx_zero, List.tail_cons, List.nil_append, List.cons_append] at hs; refine W_norm rfl ?_)
    )
    | (refine K_code ?_; first
      | refine W_seq ?_
      | refine W_ops ?_
      | refine W_block ?_
    )
    | refine seqK_n ?_)
  obtain ⟨b0, hb0⟩ : ∃ b0, b0 = al := ⟨_, rfl⟩
  subst hb0
  refine W_loopB [7, 8, 9, 10, 16, 17, 18, 19, 20, 21, 22, 23, 24, 25, 26, 27, 28, 29, 30, 31, 32, 33, 34, 35] [0, 1, 2, 3, 4, 5, 6, 7, 8, 9, 10, 11, 12, 13, 14, 15, 16, 17, 18, 19, 20, 21, 22, 23, 24, 25, 26, 27, 28, 29, 30, 31, 32, 33, 34, 35, 36, 37, 38, 39, 40, 41, 42, 43, 44, 45, 46, 47, 48, 49, 50, 51, 52, 53, 54, 55, 56, 57, 58] (fun n' sl h' => ∃ (k : Nat) (p bu : SV) (c : Hp) (ua uc : SV) (ca cc : Hp), sl = [(7, .sc ua), (8, .sc uc), (16, .sc (.int .i64 (k : Int)))] ∧ n' = C.length - k ∧ k ≤ C.length ∧ Bld b0 p bu (textB (C.take k)) c ∧ AccS (intEl .i64) 3 ua (atsL C k) ca ∧ AccS (intEl .i64) 3 uc (cellsL C k) cc ∧ Sep (Now h) [[(b0, .cells 83 .own [p, bu])], c, ca, cc] h') ?_ ?_
  · refine ⟨_, _, ⟨0, .nilp, .nils, [], .nils, .nils, [], [], rfl, rfl, Nat.zero_le _, ?_, AccS.nil _, AccS.nil _, ?_⟩, EnvB.of rfl⟩
    · exact ⟨.inl rfl, AccS.nil _, fun _ => rfl⟩
    · exact hs.sublist (by simp)
  clear hs
  rintro _ _ us _ h2 ⟨k, p, bu, c, ua, uc, ca, cc, rfl, rfl, hk, hb, hA, hC, hs⟩ he
  refine W_spell he rfl ?_
  clear he
  unfold m35_l4
  have htl := textB_length (C.take k)
  rw [List.length_take] at htl
  have hfl := firstsL_le C k
  have hal : (atsL C k).length = (firstsL C k).length := List.length_map ..
  have hcl : (cellsL C k).length = (firstsL C k).length := List.length_map ..
  by_cases hlt : k < C.length
  · have hrk := hr _ (getD_mem' (d := cell0) hlt)
    repeat' (first
      | (refine K_ops ?_; first
        | refine W_fastB rfl ?_
        | refine W_nil ?_
        | (refine K_call ?_; first
          | (refine W_callsN 49 rfl (w49 (hs.drop 0) hb) rfl ?_; rintro _ h ⟨rfl, rfl⟩; refine W_norm rfl ?_)
          | (refine W_callsN 50 rfl (w50 (hs.drop 0) hb (by omega) hrk) rfl ?_; rintro _ h4 ⟨x, rfl, p', u', c', hb', hs⟩; refine W_norm rfl ?_)
        )
        | (refine K_bin ?_; first
          | (refine W_add rfl rfl (IntWalk.i64_in _ (by first | omega | (simp only [List.length_set, List.length_append, List.length_take, List.length_drop, List.length_replicate, List.length_cons, List.length_nil, decs_length, List.length_map]; omega))) ?_; refine W_norm rfl ?_)
        )
        | (refine K_index ?_; first
          | (refine W_indexR rfl rfl (by assumption) rfl ⟨(by first | omega | (simp only [List.length_set, List.length_append, List.length_take, List.length_drop, List.length_replicate, List.length_cons, List.length_nil, decs_length, List.length_map]; omega)), (by first | omega | (simp only [List.length_set, List.length_append, List.length_take, List.length_drop, List.length_replicate, List.length_cons, List.length_nil, decs_length, List.length_map]; omega))⟩ ?_; intro _ _ _; refine W_norm rfl ?_)
        )
        | (refine K_load ?_; first
          | (refine W_loadRA hs rfl (by assumption) rfl ?_; refine W_norm rfl ?_)
          | (refine W_loadC hs 0 rfl rfl rfl ?_; refine W_norm rfl ?_)
        )
        | (refine K_store ?_; first
          | (refine W_storeC hs 0 rfl rfl rfl rfl (by first | decide | assumption) rfl rfl ?_; clear hs; intro _ hs; try simp only [cell_back, attr_back, List.set_cons_zero, List.set_cons_succ, List.eraseIdx_cons_succ, List.eraseIdx_zero, List.tail_cons, List.nil_append, List.cons_append] at hs; refine W_norm rfl ?_)
        )
        | (refine W_allocS hs ?_; clear hs; intro al _ hs; try simp only [cell_back, attr_back, List.set_cons_zero, List.set_cons_succ, List.eraseIdx_cons_succ, List.eraseIdx_zero, List.tail_cons, List.nil_append, List.cons_append] at hs; refine W_norm rfl ?_)
        | (refine K_bslice ?_; first
          | (refine W_appB1 (intEl .i64) hs 3 rfl rfl rfl (by assumption) rfl rfl rfl ⟨by decide, (by first | omega | (simp only [List.length_set, List.length_append, List.length_take, List.length_drop, List.length_replicate, List.length_cons, List.length_nil, decs_length, List.length_map]; omega))⟩ ?_; clear hs; intro _ _ _ _ _ hs; try simp only [cell_back, attr_back, List.set_cons_zero, List.set_cons_succ, List.eraseIdx_cons_succ, List.eraseIdx_zero, List.tail_cons, List.nil_append, List.cons_append] at hs; refine W_norm rfl ?_)
          | (refine W_appB1 (intEl .i64) hs 4 rfl rfl rfl (by assumption) rfl rfl rfl ⟨by decide, (by first | omega | (simp only [List.length_set, List.length_append, List.length_take, List.length_drop, List.length_replicate, List.length_cons, List.length_nil, decs_length, List.length_map]; omega))⟩ ?_; clear hs; intro _ _ _ _ _ hs; try simp only [cell_back, attr_back, List.set_cons_zero, List.set_cons_succ, List.eraseIdx_cons_succ, List.eraseIdx_zero, List.tail_cons, List.nil_append, List.cons_append] at hs; refine W_norm rfl ?_)
        )
      )
      | (refine K_code ?_; first
        | refine W_seq ?_
        | refine W_ops ?_
        | (refine W_cond rfl (fun hc => ?_) (fun hc => ?_) <;> (try rw [hc]) <;> (try simp only [decide_eq_true_eq, decide_eq_false_iff_not, beq_iff_eq, beq_eq_false_iff_ne, bne_iff_ne, bne_eq_false_iff_eq, Bool.not_eq_true', Bool.not_eq_false', Int.not_lt, Int.not_le, ne_eq, reduceCtorEq, not_true_eq_false, not_false_eq_true, Decidable.not_not] at hc) <;> (try (exfalso; omega)) <;> (try refine W_norm rfl ?_))
        | refine W_skip ?_
        | refine W_block ?_
      )
      | refine seqK_n ?_
      | refine blockK_n ?_
      | refine invK_n ?_)
    · have hc' : (C.getD k cell0).w ≠ 2 := hc
      have e := textB_take hlt
      rw [if_neg hc'] at e
      rw [← e] at hb'
      have ef := firstsL_succ C k
      rw [if_pos hc'] at ef
      refine ⟨_, ?_, _, ⟨k + 1, p', u', c', _, _, _, _, rfl, rfl, ?_, hb', ?_, ?_, hs⟩, EnvB.of rfl⟩
      · omega
      · omega
      · unfold atsL at *; rw [ef, List.map_append]; assumption
      · unfold cellsL at *; rw [ef, List.map_append]; assumption
    · have hc2 : (C.getD k cell0).w = 2 := hc
      have hc' : ¬ (C.getD k cell0).w ≠ 2 := fun hh => hh hc2
      have e := textB_take hlt
      rw [if_pos hc2, List.append_nil] at e
      have ef := firstsL_succ C k
      rw [if_neg hc', List.append_nil] at ef
      rw [← e] at hb
      refine ⟨_, ?_, _, ⟨k + 1, p, bu, c, ua, uc, ca, cc, rfl, rfl, ?_, hb, ?_, ?_, hs.drop 0⟩, EnvB.of rfl⟩
      · omega
      · omega
      · unfold atsL at *; rw [ef]; exact hA
      · unfold cellsL at *; rw [ef]; exact hC
  · obtain rfl : k = C.length := by omega
    rw [List.take_of_length_le (Nat.le_refl _)] at hb htl
    repeat' (first
      | (refine K_ops ?_; first
        | refine W_fastB rfl ?_
        | refine W_nil ?_
        | (refine K_call ?_; first
          | (refine W_callsN 40 rfl (w40 hs hb (by omega)) rfl ?_; rintro _ h3 ⟨rfl, hs⟩; refine W_norm rfl ?_)
        )
      )
      | (refine K_code ?_; first
        | refine W_seq ?_
        | refine W_ops ?_
        | (refine W_cond rfl (fun hc => ?_) (fun hc => ?_) <;> (try rw [hc]) <;> (try simp only [decide_eq_true_eq, decide_eq_false_iff_not, beq_iff_eq, beq_eq_false_iff_ne, bne_iff_ne, bne_eq_false_iff_eq, Bool.not_eq_true', Bool.not_eq_false', Int.not_lt, Int.not_le, ne_eq, reduceCtorEq, not_true_eq_false, not_false_eq_true, Decidable.not_not] at hc) <;> (try (exfalso; omega)) <;> (try refine W_norm rfl ?_))
        | refine W_exit ?_
        | refine W_block ?_
      )
      | refine seqK_n ?_
      | refine seqK_x ?_
      | refine blockK_e ?_
      | refine invK_x ?_)
    replace hs : Sep (((Now h).add ca).add cc) [[]] h3 := (((hs.drop 0).freeze 0 rfl).freeze 0 rfl).nil
    have hA2 : SlR (intEl .i64) (((Now h).add ca).add cc) ua (atsL C C.length) := (hA.add _).mono (Ro.le_add _ _)
    have hC2 : SlR (intEl .i64) (((Now h).add ca).add cc) uc (cellsL C C.length) := hC.add _
    have hln1 := hA2.ln
    have hq : ∀ i, i < (firstsL C C.length).length → (firstsL C C.length).getD i 0 < C.length := fun i hi => by
      have : (firstsL C C.length).getD i 0 ∈ firstsL C C.length := getD_mem' hi
      unfold firstsL at this
      exact List.mem_range.1 (List.mem_filter.1 this).1
    refine W_loopB [6, 11, 37, 38, 39, 40, 41, 42, 43, 44, 45, 46, 47, 48, 49, 50, 51, 52, 53, 54, 55, 56, 57] [0, 1, 2, 3, 4, 5, 6, 7, 8, 9, 10, 11, 12, 13, 14, 15, 16, 17, 18, 19, 20, 21, 22, 23, 24, 25, 26, 27, 28, 29, 30, 31, 32, 33, 34, 35, 36, 37, 38, 39, 40, 41, 42, 43, 44, 45, 46, 47, 48, 49, 50, 51, 52, 53, 54, 55, 56, 57, 58] (fun n' sl h' => ∃ (i : Nat) (uo : SV) (co : Hp), sl = [(6, .sc uo), (11, .sc (.int .i64 (i : Int)))] ∧ n' = (firstsL C C.length).length - i ∧ i ≤ (firstsL C C.length).length ∧ AccS (intEl .i64) 3 uo ((((firstsL C C.length).take i).filter fun x => t.isPrefixOf (textB (C.drop x))).map fun (x : Nat) => (x : Int)) co ∧ Sep (((Now h).add ca).add cc) [co] h') ?_ ?_
    · refine ⟨_, _, ⟨0, .nils, [], rfl, rfl, Nat.zero_le _, AccS.nil _, hs⟩, EnvB.of rfl⟩
    clear hs hA hC
    rintro _ _ us _ h4 ⟨i, uo, co, rfl, rfl, hi, hO, hs⟩ he
    refine W_spell he rfl ?_
    clear he
    unfold m35_l12
    by_cases hlt2 : i < (firstsL C C.length).length
    · have hx := hq i hlt2
      have hol : ((((firstsL C C.length).take i).filter fun x => t.isPrefixOf (textB (C.drop x))).map fun (x : Nat) => (x : Int)).length ≤ 1000 := by
        rw [List.length_map]
        have := List.length_filter_le (fun x => t.isPrefixOf (textB (C.drop x))) ((firstsL C C.length).take i)
        rw [List.length_take] at this
        omega
      obtain ⟨x, hxe⟩ : ∃ x, x = (firstsL C C.length).getD i 0 := ⟨_, rfl⟩
      rw [← hxe] at hx
      have hval : (atsL C C.length).getD (i : Int).toNat (intEl .i64).dflt = ((textB (C.take x)).length : Int) := by
        unfold atsL
        rw [Int.toNat_natCast, List.getD_eq_getElem?_getD, List.getElem?_map, List.getElem?_eq_getElem hlt2, hxe, List.getD_eq_getElem?_getD, List.getElem?_eq_getElem hlt2]; rfl
      have hcel : (cellsL C C.length).getD (i : Int).toNat (intEl .i64).dflt = (x : Int) := by
        unfold cellsL
        rw [Int.toNat_natCast, List.getD_eq_getElem?_getD, List.getElem?_map, List.getElem?_eq_getElem hlt2, hxe, List.getD_eq_getElem?_getD, List.getElem?_eq_getElem hlt2]; rfl
      have hle : (textB (C.take x)).length ≤ (textB C).length := by
        have : textB C = textB (C.take x) ++ textB (C.drop x) := by
          conv => lhs; rw [← List.take_append_drop x C]
          unfold textB
          rw [← List.flatMap_append, List.take_append_drop]
        rw [this, List.length_append]; omega
      have hcut := textB_cut C x
      have htk : ((firstsL C C.length).take (i + 1)).filter (fun x => t.isPrefixOf (textB (C.drop x))) = ((firstsL C C.length).take i).filter (fun x => t.isPrefixOf (textB (C.drop x))) ++ (if t.isPrefixOf (textB (C.drop x)) = true then [x] else []) := by
        rw [List.take_add_one, List.getElem?_eq_getElem hlt2, List.filter_append]
        congr 1
        have e : (firstsL C C.length)[i]'hlt2 = x := by rw [hxe, List.getD_eq_getElem?_getD, List.getElem?_eq_getElem hlt2]; rfl
        rw [e]
        cases hh : t.isPrefixOf (textB (C.drop x)) <;> simp [hh]
      repeat' (first
        | (refine K_ops ?_; first
          | refine W_fastB rfl ?_
          | refine W_nil ?_
          | (refine K_call ?_; first
            | (refine W_callsN 51 rfl (w51 _ _ _ (by simp; omega) ht) rfl ?_; rintro _ h4 ⟨rfl, rfl⟩; refine W_norm rfl ?_)
          )
          | (refine W_lenL rfl (by first | assumption | exact SlR.ln (by assumption) | exact AccS.ln (by assumption) | exact OwnS.ln (by assumption) | exact VwO.ln (by assumption) | exact OwnP.ln (by assumption) | exact Len.sl) ?_; refine W_norm rfl ?_)
          | (refine K_bin ?_; first
            | (refine W_add rfl rfl (IntWalk.i64_in _ (by first | omega | (simp only [List.length_set, List.length_append, List.length_take, List.length_drop, List.length_replicate, List.length_cons, List.length_nil, decs_length, List.length_map]; omega))) ?_; refine W_norm rfl ?_)
          )
          | (refine K_index ?_; first
            | (refine W_indexR rfl rfl (by assumption) rfl ⟨(by first | omega | (simp only [List.length_set, List.length_append, List.length_take, List.length_drop, List.length_replicate, List.length_cons, List.length_nil, decs_length, List.length_map]; omega)), (by first | omega | (simp only [List.length_set, List.length_append, List.length_take, List.length_drop, List.length_replicate, List.length_cons, List.length_nil, decs_length, List.length_map]; omega))⟩ ?_; intro _ _ _; refine W_norm rfl ?_)
          )
          | (refine K_load ?_; first
            | (refine W_loadR hs rfl (by assumption) rfl ?_; refine W_norm rfl ?_)
          )
          | (refine K_bslice ?_; first
            | (refine W_appB1 (intEl .i64) hs 0 rfl rfl rfl (by assumption) rfl rfl rfl ⟨by decide, (by first | omega | (simp only [List.length_set, List.length_append, List.length_take, List.length_drop, List.length_replicate, List.length_cons, List.length_nil, decs_length, List.length_map]; omega))⟩ ?_; clear hs; intro _ _ _ _ _ hs; try simp only [cell_back, attr_back, List.set_cons_zero, List.set_cons_succ, List.eraseIdx_cons_succ, List.eraseIdx_zero, List.tail_cons, List.nil_append, List.cons_append] at hs; refine W_norm rfl ?_)
          )
          | (refine W_sliceStrFrom rfl rfl ⟨(by first | omega | (simp only [List.length_set, List.length_append, List.length_take, List.length_drop, List.length_replicate, List.length_cons, List.length_nil, decs_length, List.length_map]; omega)), (by first | omega | (simp only [List.length_set, List.length_append, List.length_take, List.length_drop, List.length_replicate, List.length_cons, List.length_nil, decs_length, List.length_map]; omega))⟩ ?_; refine W_norm rfl ?_)
        )
        | (refine K_code ?_; first
          | refine W_seq ?_
          | refine W_ops ?_
          | (refine W_cond rfl (fun hc => ?_) (fun hc => ?_) <;> (try rw [hc]) <;> (try simp only [decide_eq_true_eq, decide_eq_false_iff_not, beq_iff_eq, beq_eq_false_iff_ne, bne_iff_ne, bne_eq_false_iff_eq, Bool.not_eq_true', Bool.not_eq_false', Int.not_lt, Int.not_le, ne_eq, reduceCtorEq, not_true_eq_false, not_false_eq_true, Decidable.not_not] at hc) <;> (try (exfalso; omega)) <;> (try refine W_norm rfl ?_))
          | refine W_skip ?_
          | refine W_block ?_
        )
        | refine seqK_n ?_
        | refine blockK_n ?_
        | refine invK_n ?_)
      · rw [hval, Int.toNat_natCast, hcut] at hc
        rw [if_pos hc] at htk
        rename_i ha
        rw [hcel] at ha
        refine ⟨_, ?_, _, ⟨i + 1, _, _, rfl, rfl, ?_, ?_, hs⟩, EnvB.of rfl⟩
        · omega
        · omega
        · rw [htk, List.map_append]; exact ha
      · rw [hval, Int.toNat_natCast, hcut] at hc
        rw [if_neg (by rw [hc]; simp), List.append_nil] at htk
        refine ⟨_, ?_, _, ⟨i + 1, uo, co, rfl, rfl, ?_, ?_, hs⟩, EnvB.of rfl⟩
        · omega
        · omega
        · rw [htk]; exact hO
    · repeat' (first
        | (refine K_ops ?_; first
          | refine W_fastB rfl ?_
          | refine W_nil ?_
          | (refine W_lenL rfl (by first | assumption | exact SlR.ln (by assumption) | exact AccS.ln (by assumption) | exact OwnS.ln (by assumption) | exact VwO.ln (by assumption) | exact OwnP.ln (by assumption) | exact Len.sl) ?_; refine W_norm rfl ?_)
        )
        | (refine K_code ?_; first
          | refine W_seq ?_
          | refine W_ops ?_
          | (refine W_cond rfl (fun hc => ?_) (fun hc => ?_) <;> (try rw [hc]) <;> (try simp only [decide_eq_true_eq, decide_eq_false_iff_not, beq_iff_eq, beq_eq_false_iff_ne, bne_iff_ne, bne_eq_false_iff_eq, Bool.not_eq_true', Bool.not_eq_false', Int.not_lt, Int.not_le, ne_eq, reduceCtorEq, not_true_eq_false, not_false_eq_true, Decidable.not_not] at hc) <;> (try (exfalso; omega)) <;> (try refine W_norm rfl ?_))
          | refine W_ret ?_
          | refine W_exit ?_
        )
        | refine seqK_n ?_
        | refine seqK_x ?_
        | refine blockK_e ?_
        | refine invK_x ?_
        | (refine fnK_r rfl ?_; try dsimp only [gd_z, gd_s]))
      obtain rfl : i = (firstsL C C.length).length := by omega
      rw [List.take_of_length_le (Nat.le_refl _), ← begL_eq] at hO
      exact ⟨_, rfl, _, _, rfl, hO, hs.unadd.unadd⟩
end Go.Proofs.YtbkhjpclnfljbaaDoor
/- Views: the search. -/
set_option linter.unusedSimpArgs false
set_option linter.unusedVariables false
set_option maxHeartbeats 1000000
set_option maxRecDepth 100000
namespace Go.Proofs.YtbkhjpclnfljbaaDoor
open Go Go.Jx

def spotE : El Spot := ⟨2, fun p => [.int .i64 p.1, .int .i64 p.2], fun l => match l with | [.int _ a, .int _ b] => (a, b) | _ => (0, 0), (0, 0), fun _ => rfl, by decide, fun _ => rfl⟩
def spotsK (L : List Ln) (t : List UInt8) (k : Nat) : List Spot := (List.range k).flatMap fun (y : Nat) => (begL (L.getD y ln0).cells t).map fun (x : Nat) => ((x : Int), (y : Int))
theorem spotsK_succ (L : List Ln) (t : List UInt8) (k : Nat) : spotsK L t (k + 1) = spotsK L t k ++ (begL (L.getD k ln0).cells t).map fun (x : Nat) => ((x : Int), (k : Int)) := by
  unfold spotsK
  rw [List.range_succ, List.flatMap_append]; simp
theorem begL_len (C : List Cell) (t : List UInt8) : (begL C t).length ≤ C.length := by
  have := List.length_filter_le (begB C t) (List.range C.length)
  rwa [List.length_range] at this
theorem spotsK_len {L : List Ln} {h : Int} (k : OkL L h) (t : List UInt8) (n : Nat) (hn : n ≤ L.length) : (spotsK L t n).length ≤ n * 1000 := by
  induction n with
  | zero => simp [spotsK]
  | succ n ih =>
    rw [spotsK_succ, List.length_append, List.length_map]
    have h1 := begL_len (L.getD n ln0).cells t
    have h2 := (k.wid (y := (n : Int)) (by omega) (by omega)).2
    unfold wid at h2
    rw [Int.toNat_natCast] at h2
    have := ih (by omega)
    omega
theorem atL_at {L : List Ln} {G : List LnC} (hm : G.map lnOf = L) {k : Nat} (hk : k < G.length) : (L.getD k ln0).cells = atC G k := by
  subst hm
  rw [List.getD_eq_getElem?_getD, lnOf_atH hk]; rfl
def findR (v : Vw) (t : List UInt8) (back : Bool) : Vw × Int :=
  if 1 ≤ t.length ∧ t.length ≤ 32 then (match findV v t back with | some v' => (v', 0) | none => (v, 4)) else (v, 1)
theorem find_at {A : List Spot} {P : Spot → Bool} {k : Nat} {d : Spot} (hk : k < A.length) (hit : P (A.getD k d) = true) (hz : ∀ i, i < k → P (A.getD i d) = false) : A.find? P = some (A.getD k d) := by
  have hd : A.drop k = A.getD k d :: A.drop (k + 1) := by
    rw [List.drop_eq_getElem_cons hk, List.getD_eq_getElem?_getD, List.getElem?_eq_getElem hk]; rfl
  conv => lhs; rw [← List.take_append_drop k A]
  rw [List.find?_append, hd, List.find?_cons, hit]
  have : (A.take k).find? P = none := by
    rw [List.find?_eq_none]
    intro a ha
    obtain ⟨i, hi, rfl⟩ := List.getElem_of_mem ha
    have hi2 : i < k := by rw [List.length_take] at hi; omega
    have := hz i hi2
    rw [List.getD_eq_getElem?_getD, List.getElem?_eq_getElem (by omega)] at this
    rw [List.getElem_take]
    simpa using this
  rw [this, Option.none_or]
theorem find_no {A : List Spot} {P : Spot → Bool} {d : Spot} (hz : ∀ i, i < A.length → P (A.getD i d) = false) : A.find? P = none := by
  rw [List.find?_eq_none]
  intro a ha
  obtain ⟨i, hi, rfl⟩ := List.getElem_of_mem ha
  have := hz i hi
  rw [List.getD_eq_getElem?_getD, List.getElem?_eq_getElem hi] at this
  simpa using this
theorem head_at {A : List Spot} {d : Spot} (h : 0 < A.length) : A.head? = some (A.getD 0 d) := by
  cases A with
  | nil => simp at h
  | cons a A => rfl
theorem last_at {A : List Spot} {d : Spot} (h : 0 < A.length) : A.getLast? = some (A.getD (A.length - 1) d) := by
  rw [List.getLast?_eq_getElem?, List.getD_eq_getElem?_getD, List.getElem?_eq_getElem (by omega)]; rfl
/-- The last one ahead of a place, of the first k. -/
def lastB (A : List Spot) (p : Spot) (k : Nat) : Spot := match ((A.take k).filter fun q => bef q p).getLast? with | some q => q | none => A.getD (A.length - 1) spotE.dflt
theorem lastB_zero (A : List Spot) (p : Spot) : lastB A p 0 = A.getD (A.length - 1) spotE.dflt := rfl
theorem lastB_hit {A : List Spot} {p : Spot} {k : Nat} (hk : k < A.length) (h : bef (A.getD k spotE.dflt) p = true) : lastB A p (k + 1) = A.getD k spotE.dflt := by
  unfold lastB
  rw [List.take_add_one, getD_get? (d := spotE.dflt) hk, List.filter_append]
  simp only [Option.toList_some, List.filter_cons, h, if_true, List.filter_nil, List.getLast?_append, List.getLast?_singleton, Option.some_or]
theorem lastB_miss {A : List Spot} {p : Spot} {k : Nat} (hk : k < A.length) (h : bef (A.getD k spotE.dflt) p = false) : lastB A p (k + 1) = lastB A p k := by
  unfold lastB
  rw [List.take_add_one, getD_get? (d := spotE.dflt) hk, List.filter_append]
  simp only [Option.toList_some, List.filter_cons, h, Bool.false_eq_true, if_false, List.filter_nil, List.append_nil]
theorem lastB_end {A : List Spot} {p : Spot} (h : 0 < A.length) : pickB A p = some (lastB A p A.length) := by
  unfold lastB pickB
  rw [List.take_of_length_le (Nat.le_refl _)]
  cases hh : (A.filter fun q => bef q p).getLast? with
  | some q => rfl
  | none => exact last_at h
theorem w13 {R : Ro} {M : List Hp} {h : Heap} {id : Nat} {lv mk : SV} {v : Vw} {G : List LnC} {q : List UInt8} {back : Bool} (hs : Sep R (vwO id lv mk v :: M) h) (hG : VwR R lv mk v G) (ok : OkV v) (ht : q.length ≤ 9223372036854775807) :
    Wc DD 13 [.sc (.ptr id 0), .sc (.str q), bo back] h fun w h' => w = i64 (findR v q back).2 ∧ Sep R (vwO id lv mk (findR v q back).1 :: M) h' := by
  have hl := hG.ln
  have hlen := hG.len
  have ok1 := ok.l.len
  have ok2 := ok.l.big
  have hln := hG.lns.1
  have hGl : (G.map Prod.fst).length = v.L.length := by rw [List.length_map]; exact hlen
  have hcl : ∀ g ∈ G, g.2.length ≤ 1000 := fun g hg => (ok.l.cells (lnOf g) (by rw [← hG.map]; exact List.mem_map_of_mem hg)).2
  by_cases h32 : 1 ≤ q.length ∧ q.length ≤ 32
  · have ef : findR v q back = (match findV v q back with | some v' => (v', 0) | none => (v, 4)) := by unfold findR; rw [if_pos h32]
    rw [ef]
    refine W_enter d13 ?_
    show W _ (.code m13_code [.sc (.ptr id 0), .sc (.str q), bo back, undefA, undefA, undefA, undefA, undefA, undefA, undefA, undefA, undefA, undefA, undefA, undefA, undefA, undefA, undefA, undefA, undefA, undefA, undefA, undefA, undefA, undefA, undefA, undefA, undefA, undefA, undefA, undefA, undefA, undefA, undefA, undefA, undefA, undefA, undefA, undefA, undefA, undefA, undefA, undefA, undefA, undefA, undefA, undefA, undefA, undefA, undefA, undefA, undefA, undefA, undefA, undefA, undefA, undefA, undefA, undefA, undefA, undefA, undefA, undefA, undefA, undefA, undefA, undefA, undefA, undefA, undefA, undefA, undefA, undefA, undefA, undefA, undefA, undefA, undefA, undefA, undefA, undefA, undefA, undefA, undefA, undefA, undefA, undefA, undefA, undefA, undefA, undefA, undefA, undefA, undefA, undefA, undefA, undefA, undefA, undefA, undefA] _) _
    unfold m13_code
    repeat' (first
      | (refine K_ops ?_; first
        | refine W_fastB rfl ?_
        | refine W_nil ?_
        | (refine K_guard ?_; first
          | refine W_guard_on rfl ?_
          | (refine W_guardF rfl (fun hc => ?_) (fun hc => ?_) <;> (try rw [hc]) <;> (try simp only [decide_eq_true_eq, decide_eq_false_iff_not, beq_iff_eq, beq_eq_false_iff_ne, bne_iff_ne, bne_eq_false_iff_eq, Bool.not_eq_true', Bool.not_eq_false', Int.not_lt, Int.not_le, ne_eq, reduceCtorEq, not_true_eq_false, not_false_eq_true, Decidable.not_not] at hc) <;> (try (exfalso; omega)) <;> (try refine W_norm rfl ?_))
        )
        | (refine K_call ?_; first
          | (refine W_callsN 33 rfl (w33 hs hl ok1) rfl ?_; rintro _ h ⟨rfl, rfl⟩; refine W_norm rfl ?_)
        )
        | (refine W_lenL rfl (by first | assumption | exact SlR.ln (by assumption) | exact AccS.ln (by assumption) | exact OwnS.ln (by assumption) | exact VwO.ln (by assumption) | exact OwnP.ln (by assumption) | exact Len.sl) ?_; refine W_norm rfl ?_)
        | (refine K_pick ?_; first
          | refine W_pick_f rfl rfl (W_norm rfl ?_)
        )
        | (refine K_load ?_; first
          | (refine W_loadC hs 0 rfl rfl rfl ?_; refine W_norm rfl ?_)
        )
      )
      | (refine K_code ?_; first
        | refine W_seq ?_
        | refine W_ops ?_
        | refine W_cond_f rfl ?_
        | (refine W_cond rfl (fun hc => ?_) (fun hc => ?_) <;> (try rw [hc]) <;> (try simp only [decide_eq_true_eq, decide_eq_false_iff_not, beq_iff_eq, beq_eq_false_iff_ne, bne_iff_ne, bne_eq_false_iff_eq, Bool.not_eq_true', Bool.not_eq_false', Int.not_lt, Int.not_le, ne_eq, reduceCtorEq, not_true_eq_false, not_false_eq_true, Decidable.not_not] at hc) <;> (try (exfalso; omega)) <;> (try refine W_norm rfl ?_))
        | refine W_skip ?_
        | refine W_block ?_
      )
      | refine seqK_n ?_
      | refine blockK_n ?_)
    refine W_loopB [7, 8, 9, 11, 32, 33, 34, 35, 36, 37, 38, 39, 40, 41, 42, 43, 44, 45, 46, 47, 48, 49, 50, 51, 52] [0, 1, 2, 3, 4, 5, 6, 7, 8, 9, 10, 11, 12, 13, 14, 15, 16, 17, 18, 19, 20, 21, 22, 23, 24, 25, 26, 27, 28, 29, 30, 31, 32, 33, 34, 35, 36, 37, 38, 39, 40, 41, 42, 43, 44, 45, 46, 47, 48, 49, 50, 51, 52, 53, 54, 55, 56, 57, 58, 59, 60, 61, 62, 63, 64, 65, 66, 67, 68, 69, 70, 71, 72, 73, 74, 75, 76, 77, 78, 79, 80, 81, 82, 83, 84, 85, 86, 87, 88, 89, 90, 91, 92, 93, 94, 95, 96, 97, 98, 99] (fun n' sl h' => ∃ (k : Nat) (ua : SV) (ca : Hp), sl = [(7, .sc ua), (32, .sc (.int .i64 (k : Int)))] ∧ n' = v.L.length - k ∧ k ≤ v.L.length ∧ AccS spotE 58 ua (spotsK v.L q k) ca ∧ Sep R (ca :: vwO id lv mk v :: M) h') ?_ ?_
    · refine ⟨_, _, ⟨0, .nils, [], rfl, rfl, Nat.zero_le _, AccS.nil _, hs.nil⟩, EnvB.of rfl⟩
    clear hs
    rintro _ _ us _ h2 ⟨k, ua, ca, rfl, rfl, hk, hA, hs⟩ he
    refine W_spell he rfl ?_
    clear he
    unfold m13_l7
    have hal := spotsK_len ok.l q k hk
    by_cases hlt : k < v.L.length
    · have hltG : k < G.length := by omega
      have hrow := hG.lns.at hltG
      have hrn := atC_len hcl hltG
      have hrr : ∀ c ∈ atC G k, -2147483648 ≤ c.r ∧ c.r ≤ 2147483647 := fun c hc => ok.l.runes (atL G k) (by rw [← hG.map]; exact List.mem_of_getElem? (lnOf_atH hltG)) c hc
      repeat' (first
        | (refine K_ops ?_; first
          | refine W_fastB rfl ?_
          | refine W_nil ?_
          | (refine K_call ?_; first
            | (refine W_callsN 35 rfl (w35 (g := atH G k) (SlR.now hs hrow) hrn hrr (by omega)) rfl ?_; rintro _ h3 ⟨ux, cx, rfl, hX, t⟩; replace hs := hs.call t; try simp only [cell_back, attr_back, List.set_cons_zero, List.set_cons_succ, List.eraseIdx_cons_succ, List.eraseIdx_zero, List.tail_cons, List.nil_append, List.cons_append] at hs; refine W_norm rfl ?_)
          )
          | (refine W_lenL rfl (by first | assumption | exact SlR.ln (by assumption) | exact AccS.ln (by assumption) | exact OwnS.ln (by assumption) | exact VwO.ln (by assumption) | exact OwnP.ln (by assumption) | exact Len.sl) ?_; refine W_norm rfl ?_)
          | (refine K_index ?_; first
            | (refine W_indexR rfl rfl (by assumption) rfl ⟨(by first | omega | (simp only [List.length_set, List.length_append, List.length_take, List.length_drop, List.length_replicate, List.length_cons, List.length_nil, decs_length, List.length_map]; omega)), (by first | omega | (simp only [List.length_set, List.length_append, List.length_take, List.length_drop, List.length_replicate, List.length_cons, List.length_nil, decs_length, List.length_map]; omega))⟩ ?_; intro _ _ _; refine W_norm rfl ?_)
          )
          | (refine K_load ?_; first
            | (refine W_loadRA hs rfl (by assumption) rfl ?_; refine W_norm rfl ?_)
            | (refine W_loadCA hs 0 rfl rfl rfl ?_; refine W_norm rfl ?_)
          )
          | (refine K_store ?_; first
            | (refine W_storeC hs 0 rfl rfl rfl rfl (by first | decide | assumption) rfl rfl ?_; clear hs; intro _ hs; try simp only [cell_back, attr_back, List.set_cons_zero, List.set_cons_succ, List.eraseIdx_cons_succ, List.eraseIdx_zero, List.tail_cons, List.nil_append, List.cons_append] at hs; refine W_norm rfl ?_)
          )
          | (refine W_allocS hs ?_; clear hs; intro al _ hs; try simp only [cell_back, attr_back, List.set_cons_zero, List.set_cons_succ, List.eraseIdx_cons_succ, List.eraseIdx_zero, List.tail_cons, List.nil_append, List.cons_append] at hs; refine W_norm rfl ?_)
        )
        | (refine K_code ?_; first
          | refine W_seq ?_
          | refine W_ops ?_
          | (refine W_cond rfl (fun hc => ?_) (fun hc => ?_) <;> (try rw [hc]) <;> (try simp only [decide_eq_true_eq, decide_eq_false_iff_not, beq_iff_eq, beq_eq_false_iff_ne, bne_iff_ne, bne_eq_false_iff_eq, Bool.not_eq_true', Bool.not_eq_false', Int.not_lt, Int.not_le, ne_eq, reduceCtorEq, not_true_eq_false, not_false_eq_true, Decidable.not_not] at hc) <;> (try (exfalso; omega)) <;> (try refine W_norm rfl ?_))
          | refine W_skip ?_
          | refine W_block ?_
        )
        | refine seqK_n ?_)
      replace hs := (hs.freeze 0 rfl).drop 0
      simp only [List.eraseIdx_cons_zero, List.eraseIdx_zero, List.tail_cons] at hs
      have hX2 : SlR (intEl .i64) (R.add cx) ux ((begL (atC G k) q).map fun (x : Nat) => (x : Int)) := hX.add R
      clear hX t
      have hxl := hX2.ln
      rw [List.length_map] at hxl
      have hbl := begL_len (atC G k) q
      have hbm : ((begL (atC G k) q).map fun (x : Nat) => (x : Int)).length = (begL (atC G k) q).length := List.length_map ..
      refine W_loopB [7, 11, 41, 42, 43, 44, 45, 46, 47, 48, 49, 50, 51] [0, 1, 2, 3, 4, 5, 6, 7, 8, 9, 10, 11, 12, 13, 14, 15, 16, 17, 18, 19, 20, 21, 22, 23, 24, 25, 26, 27, 28, 29, 30, 31, 32, 33, 34, 35, 36, 37, 38, 39, 40, 41, 42, 43, 44, 45, 46, 47, 48, 49, 50, 51, 52, 53, 54, 55, 56, 57, 58, 59, 60, 61, 62, 63, 64, 65, 66, 67, 68, 69, 70, 71, 72, 73, 74, 75, 76, 77, 78, 79, 80, 81, 82, 83, 84, 85, 86, 87, 88, 89, 90, 91, 92, 93, 94, 95, 96, 97, 98, 99] (fun n' sl h' => ∃ (j : Nat) (ua : SV) (ca : Hp), sl = [(7, .sc ua), (41, .sc (.int .i64 (j : Int)))] ∧ n' = (begL (atC G k) q).length - j ∧ j ≤ (begL (atC G k) q).length ∧ AccS spotE 58 ua (spotsK v.L q k ++ ((begL (atC G k) q).take j).map fun (x : Nat) => ((x : Int), (k : Int))) ca ∧ Sep (R.add cx) (ca :: vwO id lv mk v :: M) h') ?_ ?_
      · refine ⟨_, _, ⟨0, ua, ca, rfl, rfl, Nat.zero_le _, ?_, hs⟩, EnvB.of rfl⟩
        rw [List.take_zero, List.map_nil, List.append_nil]; exact hA
      clear hs hA
      rintro _ _ us _ h5 ⟨j, ua, ca, rfl, rfl, hj, hA, hs⟩ he
      refine W_spell he rfl ?_
      clear he
      unfold m13_l11
      have hal2 : (spotsK v.L q k ++ ((begL (atC G k) q).take j).map fun (x : Nat) => ((x : Int), (k : Int))).length ≤ 1000000 := by
        rw [List.length_append, List.length_map, List.length_take]; omega
      by_cases hlt2 : j < (begL (atC G k) q).length
      · repeat' (first
          | (refine K_ops ?_; first
            | refine W_fastB rfl ?_
            | refine W_nil ?_
            | (refine K_bin ?_; first
              | (refine W_add rfl rfl (IntWalk.i64_in _ (by first | omega | (simp only [List.length_set, List.length_append, List.length_take, List.length_drop, List.length_replicate, List.length_cons, List.length_nil, decs_length, List.length_map]; omega))) ?_; refine W_norm rfl ?_)
            )
            | (refine K_index ?_; first
              | (refine W_indexR rfl rfl (by assumption) rfl ⟨(by first | omega | (simp only [List.length_set, List.length_append, List.length_take, List.length_drop, List.length_replicate, List.length_cons, List.length_nil, decs_length, List.length_map]; omega)), (by first | omega | (simp only [List.length_set, List.length_append, List.length_take, List.length_drop, List.length_replicate, List.length_cons, List.length_nil, decs_length, List.length_map]; omega))⟩ ?_; intro _ _ _; refine W_norm rfl ?_)
            )
            | (refine K_load ?_; first
              | (refine W_loadR hs rfl (by assumption) rfl ?_; refine W_norm rfl ?_)
            )
            | (refine K_bslice ?_; first
              | (refine W_appB1 spotE hs 0 rfl rfl rfl (by assumption) rfl rfl rfl ⟨by decide, (by first | omega | (simp only [List.length_set, List.length_append, List.length_take, List.length_drop, List.length_replicate, List.length_cons, List.length_nil, decs_length, List.length_map]; omega))⟩ ?_; clear hs; intro _ _ _ _ _ hs; try simp only [cell_back, attr_back, List.set_cons_zero, List.set_cons_succ, List.eraseIdx_cons_succ, List.eraseIdx_zero, List.tail_cons, List.nil_append, List.cons_append] at hs; refine W_norm rfl ?_)
            )
            | (refine W_buildN rfl ?_; refine W_norm rfl ?_)
          )
          | (refine K_code ?_; first
            | refine W_seq ?_
            | refine W_ops ?_
            | (refine W_cond rfl (fun hc => ?_) (fun hc => ?_) <;> (try rw [hc]) <;> (try simp only [decide_eq_true_eq, decide_eq_false_iff_not, beq_iff_eq, beq_eq_false_iff_ne, bne_iff_ne, bne_eq_false_iff_eq, Bool.not_eq_true', Bool.not_eq_false', Int.not_lt, Int.not_le, ne_eq, reduceCtorEq, not_true_eq_false, not_false_eq_true, Decidable.not_not] at hc) <;> (try (exfalso; omega)) <;> (try refine W_norm rfl ?_))
            | refine W_skip ?_
            | refine W_block ?_
          )
          | refine seqK_n ?_
          | refine blockK_n ?_
          | refine invK_n ?_)
        rename_i ha
        have ev : ((begL (atC G k) q).map fun (x : Nat) => (x : Int)).getD (j : Int).toNat (intEl .i64).dflt = (((begL (atC G k) q)[j]'hlt2 : Nat) : Int) := by
          rw [Int.toNat_natCast, List.getD_eq_getElem?_getD, List.getElem?_map, List.getElem?_eq_getElem hlt2]; rfl
        rw [ev] at ha
        refine ⟨_, ?_, _, ⟨j + 1, _, _, rfl, rfl, ?_, ?_, hs⟩, EnvB.of rfl⟩
        · omega
        · omega
        · rw [List.take_add_one, List.getElem?_eq_getElem hlt2, List.map_append, ← List.append_assoc]; exact ha
      · repeat' (first
          | (refine K_ops ?_; first
            | refine W_fastB rfl ?_
            | refine W_nil ?_
            | (refine K_bin ?_; first
              | (refine W_add rfl rfl (IntWalk.i64_in _ (by first | omega | (simp only [List.length_set, List.length_append, List.length_take, List.length_drop, List.length_replicate, List.length_cons, List.length_nil, decs_length, List.length_map]; omega))) ?_; refine W_norm rfl ?_)
            )
          )
          | (refine K_code ?_; first
            | refine W_seq ?_
            | refine W_ops ?_
            | (refine W_cond rfl (fun hc => ?_) (fun hc => ?_) <;> (try rw [hc]) <;> (try simp only [decide_eq_true_eq, decide_eq_false_iff_not, beq_iff_eq, beq_eq_false_iff_ne, bne_iff_ne, bne_eq_false_iff_eq, Bool.not_eq_true', Bool.not_eq_false', Int.not_lt, Int.not_le, ne_eq, reduceCtorEq, not_true_eq_false, not_false_eq_true, Decidable.not_not] at hc) <;> (try (exfalso; omega)) <;> (try refine W_norm rfl ?_))
            | refine W_exit ?_
          )
          | refine seqK_n ?_
          | refine seqK_x ?_
          | refine blockK_n ?_
          | refine blockK_e ?_
          | refine invK_x ?_
          | refine invK_n ?_)
        obtain rfl : j = (begL (atC G k) q).length := by omega
        rw [List.take_of_length_le (Nat.le_refl _)] at hA
        refine ⟨_, ?_, _, ⟨k + 1, ua, ca, rfl, rfl, ?_, ?_, hs.unadd⟩, EnvB.of rfl⟩
        · omega
        · omega
        · rw [spotsK_succ, atL_at hG.map hltG]; exact hA
    · obtain rfl : k = v.L.length := by omega
      replace hs := hs.freeze 0 rfl
      simp only [List.eraseIdx_cons_zero, List.eraseIdx_zero, List.tail_cons] at hs
      obtain ⟨A, hAe⟩ : ∃ A, A = spotsL v.L q := ⟨_, rfl⟩
      have hA2 : SlR spotE (R.add ca) ua A := by rw [hAe]; exact hA.add R
      have hAl : A.length ≤ 1000000 := by
        have : A.length = (spotsK v.L q v.L.length).length := by rw [hAe]; rfl
        omega
      have hSo : Sorted A := by rw [hAe]; exact spotsL_sorted _ _
      have hAin : ∀ p ∈ A, InV v.L p := fun p hp => spotsL_in (by rw [← hAe]; exact hp)
      have hfv : findV v q back = (pickL A (v.x, v.y) back).map fun p => toV v p.1 p.2 := by rw [hAe]; rfl
      rw [hfv]
      have hin : ∀ i, i < A.length → (0 ≤ (A.getD i spotE.dflt).1 ∧ (A.getD i spotE.dflt).1 ≤ 1000 ∧ 0 ≤ (A.getD i spotE.dflt).2 ∧ (A.getD i spotE.dflt).2 ≤ 1000) := fun i hi => by
        have := inV_lt ok.l (hAin _ (getD_mem' (d := spotE.dflt) hi))
        omega
      clear hA hal hfv ef
      have hal := hA2.ln
      by_cases h0 : A.length = 0
      · obtain rfl := List.eq_nil_of_length_eq_zero h0
        repeat' (first
          | (refine K_ops ?_; first
            | refine W_fastB rfl ?_
            | refine W_nil ?_
            | (refine W_lenL rfl (by first | assumption | exact SlR.ln (by assumption) | exact AccS.ln (by assumption) | exact OwnS.ln (by assumption) | exact VwO.ln (by assumption) | exact OwnP.ln (by assumption) | exact Len.sl) ?_; refine W_norm rfl ?_)
          )
          | (refine K_code ?_; first
            | refine W_seq ?_
            | refine W_ops ?_
            | refine W_cond_t rfl ?_
            | (refine W_cond rfl (fun hc => ?_) (fun hc => ?_) <;> (try rw [hc]) <;> (try simp only [decide_eq_true_eq, decide_eq_false_iff_not, beq_iff_eq, beq_eq_false_iff_ne, bne_iff_ne, bne_eq_false_iff_eq, Bool.not_eq_true', Bool.not_eq_false', Int.not_lt, Int.not_le, ne_eq, reduceCtorEq, not_true_eq_false, not_false_eq_true, Decidable.not_not] at hc) <;> (try (exfalso; omega)) <;> (try refine W_norm rfl ?_))
            | refine W_ret ?_
            | refine W_exit ?_
          )
          | refine seqK_n ?_
          | refine seqK_r ?_
          | refine seqK_x ?_
          | refine blockK_e ?_
          | refine invK_x ?_
          | (refine fnK_r rfl ?_; try dsimp only [gd_z, gd_s]))
        have e0 : pickL [] (v.x, v.y) back = none := pickL_none.2 rfl
        rw [e0]
        exact ⟨_, rfl, rfl, hs.unadd⟩
      · have hal0 : 0 < A.length := by omega
        have hVm : VwR (R.add ca) lv mk v G := hG.mono (Ro.le_add _ _)
        cases back
        · repeat' (first
            | (refine K_ops ?_; first
              | refine W_fastB rfl ?_
              | refine W_nil ?_
              | (refine W_lenL rfl (by first | assumption | exact SlR.ln (by assumption) | exact AccS.ln (by assumption) | exact OwnS.ln (by assumption) | exact VwO.ln (by assumption) | exact OwnP.ln (by assumption) | exact Len.sl) ?_; refine W_norm rfl ?_)
              | (refine K_index ?_; first
                | (refine W_indexR rfl rfl (by assumption) rfl ⟨(by first | omega | (simp only [List.length_set, List.length_append, List.length_take, List.length_drop, List.length_replicate, List.length_cons, List.length_nil, decs_length, List.length_map]; omega)), (by first | omega | (simp only [List.length_set, List.length_append, List.length_take, List.length_drop, List.length_replicate, List.length_cons, List.length_nil, decs_length, List.length_map]; omega))⟩ ?_; intro _ _ _; refine W_norm rfl ?_)
              )
              | (refine K_load ?_; first
                | (refine W_loadRA hs rfl (by assumption) rfl ?_; refine W_norm rfl ?_)
              )
              | (refine K_store ?_; first
                | (refine W_storeC hs 0 rfl rfl rfl rfl (by first | decide | assumption) rfl rfl ?_; clear hs; intro _ hs; try simp only [cell_back, attr_back, List.set_cons_zero, List.set_cons_succ, List.eraseIdx_cons_succ, List.eraseIdx_zero, List.tail_cons, List.nil_append, List.cons_append] at hs; refine W_norm rfl ?_)
              )
              | (refine W_allocS hs ?_; clear hs; intro al _ hs; try simp only [cell_back, attr_back, List.set_cons_zero, List.set_cons_succ, List.eraseIdx_cons_succ, List.eraseIdx_zero, List.tail_cons, List.nil_append, List.cons_append] at hs; refine W_norm rfl ?_)
            )
            | (refine K_code ?_; first
              | refine W_seq ?_
              | refine W_ops ?_
              | refine W_cond_f rfl ?_
              | (refine W_cond rfl (fun hc => ?_) (fun hc => ?_) <;> (try rw [hc]) <;> (try simp only [decide_eq_true_eq, decide_eq_false_iff_not, beq_iff_eq, beq_eq_false_iff_ne, bne_iff_ne, bne_eq_false_iff_eq, Bool.not_eq_true', Bool.not_eq_false', Int.not_lt, Int.not_le, ne_eq, reduceCtorEq, not_true_eq_false, not_false_eq_true, Decidable.not_not] at hc) <;> (try (exfalso; omega)) <;> (try refine W_norm rfl ?_))
              | refine W_skip ?_
              | refine W_exit ?_
              | refine W_block ?_
            )
            | refine seqK_n ?_
            | refine seqK_x ?_
            | refine blockK_e ?_
            | refine invK_x ?_)
          obtain ⟨b12, hb12⟩ : ∃ b, b = al := ⟨_, rfl⟩
          subst hb12
          refine W_loopB [14, 68, 69, 70, 71, 72, 73, 74, 75, 76, 77, 78, 79, 80, 81, 82, 83, 84, 85, 86, 87, 88, 89, 90, 91, 92, 93] [0, 1, 2, 3, 4, 5, 6, 7, 8, 9, 10, 11, 12, 13, 14, 15, 16, 17, 18, 19, 20, 21, 22, 23, 24, 25, 26, 27, 28, 29, 30, 31, 32, 33, 34, 35, 36, 37, 38, 39, 40, 41, 42, 43, 44, 45, 46, 47, 48, 49, 50, 51, 52, 53, 54, 55, 56, 57, 58, 59, 60, 61, 62, 63, 64, 65, 66, 67, 68, 69, 70, 71, 72, 73, 74, 75, 76, 77, 78, 79, 80, 81, 82, 83, 84, 85, 86, 87, 88, 89, 90, 91, 92, 93, 94, 95, 96, 97, 98, 99] (fun n' sl h' => ∃ (k : Nat), sl = [(68, .sc (.int .i64 (k : Int)))] ∧ n' = A.length - k ∧ k ≤ A.length ∧ (∀ i, i < k → bef (v.x, v.y) (A.getD i spotE.dflt) = false) ∧ Sep (R.add ca) ([(b12, .cells 58 .own [.int .i64 (A.getD 0 spotE.dflt).1, .int .i64 (A.getD 0 spotE.dflt).2])] :: vwO id lv mk v :: M) h') ?_ ?_
          · refine ⟨_, _, ⟨0, rfl, rfl, Nat.zero_le _, fun i hi => absurd hi (by omega), hs⟩, EnvB.of rfl⟩
          clear hs
          rintro _ _ us _ h6 ⟨k, rfl, rfl, hk, hz, hs⟩ he
          refine W_spell he rfl ?_
          clear he
          unfold m13_l23
          by_cases hlt2 : k < A.length
          · have hik := hin k hlt2
            repeat' (first
              | (refine K_ops ?_; first
                | refine W_fastB rfl ?_
                | refine W_nil ?_
                | (refine K_guard ?_; first
                  | refine W_guard_on rfl ?_
                  | refine W_guard_off rfl rfl (W_norm rfl ?_)
                )
                | (refine K_call ?_; first
                  | (refine W_callsN 36 rfl (w36 (v.x, v.y) (A.getD (k : Int).toNat spotE.dflt) _) rfl ?_; rintro _ h7 ⟨rfl, t⟩; replace hs := hs.call t; try simp only [cell_back, attr_back, List.set_cons_zero, List.set_cons_succ, List.eraseIdx_cons_succ, List.eraseIdx_zero, List.tail_cons, List.nil_append, List.cons_append] at hs; refine W_norm rfl ?_)
                  | (refine W_callsN 12 rfl (w12 ((hs.drop 0).drop 0) hVm ok (x := (A.getD (k : Int).toNat spotE.dflt).1) (y := (A.getD (k : Int).toNat spotE.dflt).2) (by simp only [Int.toNat_natCast]; omega) (by simp only [Int.toNat_natCast]; omega)) rfl ?_; rintro _ h7 ⟨rfl, hs⟩; refine W_norm rfl ?_)
                )
                | (refine K_bin ?_; first
                  | (refine W_add rfl rfl (IntWalk.i64_in _ (by first | omega | (simp only [List.length_set, List.length_append, List.length_take, List.length_drop, List.length_replicate, List.length_cons, List.length_nil, decs_length, List.length_map]; omega))) ?_; refine W_norm rfl ?_)
                )
                | (refine K_pick ?_; first
                  | refine W_pick_t rfl rfl (W_norm rfl ?_)
                  | refine W_pick_f rfl rfl (W_norm rfl ?_)
                )
                | (refine K_index ?_; first
                  | (refine W_indexR rfl rfl (by assumption) rfl ⟨(by first | omega | (simp only [List.length_set, List.length_append, List.length_take, List.length_drop, List.length_replicate, List.length_cons, List.length_nil, decs_length, List.length_map]; omega)), (by first | omega | (simp only [List.length_set, List.length_append, List.length_take, List.length_drop, List.length_replicate, List.length_cons, List.length_nil, decs_length, List.length_map]; omega))⟩ ?_; intro _ _ _; refine W_norm rfl ?_)
                )
                | (refine K_load ?_; first
                  | (refine W_loadRA hs rfl (by assumption) rfl ?_; refine W_norm rfl ?_)
                  | (refine W_loadCA hs 0 rfl rfl rfl ?_; refine W_norm rfl ?_)
                  | (refine W_loadC hs 1 rfl rfl rfl ?_; refine W_norm rfl ?_)
                  | (refine W_loadCA hs 2 rfl rfl rfl ?_; refine W_norm rfl ?_)
                )
                | (refine K_store ?_; first
                  | (refine W_storeC hs 0 rfl rfl rfl rfl (by first | decide | assumption) rfl rfl ?_; clear hs; intro _ hs; try simp only [cell_back, attr_back, List.set_cons_zero, List.set_cons_succ, List.eraseIdx_cons_succ, List.eraseIdx_zero, List.tail_cons, List.nil_append, List.cons_append] at hs; refine W_norm rfl ?_)
                  | (refine W_storeC hs 1 rfl rfl rfl rfl (by first | decide | assumption) rfl rfl ?_; clear hs; intro _ hs; try simp only [cell_back, attr_back, List.set_cons_zero, List.set_cons_succ, List.eraseIdx_cons_succ, List.eraseIdx_zero, List.tail_cons, List.nil_append, List.cons_append] at hs; refine W_norm rfl ?_)
                )
                | (refine W_allocS hs ?_; clear hs; intro al _ hs; try simp only [cell_back, attr_back, List.set_cons_zero, List.set_cons_succ, List.eraseIdx_cons_succ, List.eraseIdx_zero, List.tail_cons, List.nil_append, List.cons_append] at hs; refine W_norm rfl ?_)
              )
              | (refine K_code ?_; first
                | refine W_seq ?_
                | refine W_ops ?_
                | refine W_cond_f rfl ?_
                | (refine W_cond rfl (fun hc => ?_) (fun hc => ?_) <;> (try rw [hc]) <;> (try simp only [decide_eq_true_eq, decide_eq_false_iff_not, beq_iff_eq, beq_eq_false_iff_ne, bne_iff_ne, bne_eq_false_iff_eq, Bool.not_eq_true', Bool.not_eq_false', Int.not_lt, Int.not_le, ne_eq, reduceCtorEq, not_true_eq_false, not_false_eq_true, Decidable.not_not] at hc) <;> (try (exfalso; omega)) <;> (try refine W_norm rfl ?_))
                | refine W_skip ?_
                | refine W_ret ?_
                | refine W_exit ?_
                | refine W_block ?_
                | refine W_draw rfl ?_
              )
              | refine seqK_n ?_
              | refine seqK_x ?_
              | refine blockK_n ?_
              | refine blockK_e ?_
              | refine blockK_x rfl ?_
              | refine invK_x ?_
              | refine invK_n ?_
              | (refine fnK_r rfl ?_; try dsimp only [gd_z, gd_s]))
            · rw [Int.toNat_natCast] at hc
              simp only [Int.toNat_natCast] at hs
              have e : pickL A (v.x, v.y) false = some (A.getD k spotE.dflt) := by
                show pickF _ _ = _
                unfold pickF
                rw [find_at hlt2 hc hz]
              rw [e]
              exact ⟨_, rfl, rfl, hs.unadd⟩
            · rw [Int.toNat_natCast] at hc
              refine ⟨_, ?_, _, ⟨k + 1, rfl, rfl, ?_, ?_, hs.drop 0⟩, EnvB.of rfl⟩
              · omega
              · omega
              · intro i hi
                by_cases ei : i = k
                · subst ei; exact hc
                · exact hz i (by omega)
          · have hik := hin 0 hal0
            repeat' (first
              | (refine K_ops ?_; first
                | refine W_fastB rfl ?_
                | refine W_nil ?_
                | (refine K_call ?_; first
                  | (refine W_callsN 12 rfl (w12 (hs.drop 0) hVm ok (x := (A.getD 0 spotE.dflt).1) (y := (A.getD 0 spotE.dflt).2) (by omega) (by omega)) rfl ?_; rintro _ h7 ⟨rfl, hs⟩; refine W_norm rfl ?_)
                )
                | (refine K_load ?_; first
                  | (refine W_loadC hs 0 rfl rfl rfl ?_; refine W_norm rfl ?_)
                )
              )
              | (refine K_code ?_; first
                | refine W_seq ?_
                | refine W_ops ?_
                | (refine W_cond rfl (fun hc => ?_) (fun hc => ?_) <;> (try rw [hc]) <;> (try simp only [decide_eq_true_eq, decide_eq_false_iff_not, beq_iff_eq, beq_eq_false_iff_ne, bne_iff_ne, bne_eq_false_iff_eq, Bool.not_eq_true', Bool.not_eq_false', Int.not_lt, Int.not_le, ne_eq, reduceCtorEq, not_true_eq_false, not_false_eq_true, Decidable.not_not] at hc) <;> (try (exfalso; omega)) <;> (try refine W_norm rfl ?_))
                | refine W_ret ?_
                | refine W_exit ?_
              )
              | refine seqK_n ?_
              | refine seqK_x ?_
              | refine blockK_e ?_
              | refine invK_x ?_
              | (refine fnK_r rfl ?_; try dsimp only [gd_z, gd_s]))
            have e : pickL A (v.x, v.y) false = some (A.getD 0 spotE.dflt) := by
              show pickF _ _ = _
              unfold pickF
              rw [find_no (d := spotE.dflt) (fun i hi => hz i (by omega))]
              exact head_at hal0
            rw [e]
            exact ⟨_, rfl, rfl, hs.unadd⟩
        · repeat' (first
            | (refine K_ops ?_; first
              | refine W_fastB rfl ?_
              | refine W_nil ?_
              | (refine W_lenL rfl (by first | assumption | exact SlR.ln (by assumption) | exact AccS.ln (by assumption) | exact OwnS.ln (by assumption) | exact VwO.ln (by assumption) | exact OwnP.ln (by assumption) | exact Len.sl) ?_; refine W_norm rfl ?_)
              | (refine K_bin ?_; first
                | (refine W_sub rfl rfl (IntWalk.i64_in _ (by first | omega | (simp only [List.length_set, List.length_append, List.length_take, List.length_drop, List.length_replicate, List.length_cons, List.length_nil, decs_length, List.length_map]; omega))) ?_; refine W_norm rfl ?_)
              )
              | (refine K_index ?_; first
                | (refine W_indexR rfl rfl (by assumption) rfl ⟨(by first | omega | (simp only [List.length_set, List.length_append, List.length_take, List.length_drop, List.length_replicate, List.length_cons, List.length_nil, decs_length, List.length_map]; omega)), (by first | omega | (simp only [List.length_set, List.length_append, List.length_take, List.length_drop, List.length_replicate, List.length_cons, List.length_nil, decs_length, List.length_map]; omega))⟩ ?_; intro _ _ _; refine W_norm rfl ?_)
              )
              | (refine K_load ?_; first
                | (refine W_loadRA hs rfl (by assumption) rfl ?_; refine W_norm rfl ?_)
              )
              | (refine K_store ?_; first
                | (refine W_storeC hs 0 rfl rfl rfl rfl (by first | decide | assumption) rfl rfl ?_; clear hs; intro _ hs; try simp only [cell_back, attr_back, List.set_cons_zero, List.set_cons_succ, List.eraseIdx_cons_succ, List.eraseIdx_zero, List.tail_cons, List.nil_append, List.cons_append] at hs; refine W_norm rfl ?_)
              )
              | (refine W_allocS hs ?_; clear hs; intro al _ hs; try simp only [cell_back, attr_back, List.set_cons_zero, List.set_cons_succ, List.eraseIdx_cons_succ, List.eraseIdx_zero, List.tail_cons, List.nil_append, List.cons_append] at hs; refine W_norm rfl ?_)
            )
            | (refine K_code ?_; first
              | refine W_seq ?_
              | refine W_ops ?_
              | refine W_cond_t rfl ?_
              | (refine W_cond rfl (fun hc => ?_) (fun hc => ?_) <;> (try rw [hc]) <;> (try simp only [decide_eq_true_eq, decide_eq_false_iff_not, beq_iff_eq, beq_eq_false_iff_ne, bne_iff_ne, bne_eq_false_iff_eq, Bool.not_eq_true', Bool.not_eq_false', Int.not_lt, Int.not_le, ne_eq, reduceCtorEq, not_true_eq_false, not_false_eq_true, Decidable.not_not] at hc) <;> (try (exfalso; omega)) <;> (try refine W_norm rfl ?_))
              | refine W_skip ?_
              | refine W_exit ?_
              | refine W_block ?_
            )
            | refine seqK_n ?_
            | refine seqK_x ?_
            | refine blockK_e ?_
            | refine invK_x ?_)
          obtain ⟨b12, hb12⟩ : ∃ b, b = al := ⟨_, rfl⟩
          subst hb12
          rw [show ((A.length : Int) - 1).toNat = A.length - 1 by omega] at hs
          refine W_loopB [14, 68, 69, 70, 71, 72, 73, 74, 75, 76, 77, 78, 79, 80, 81, 82, 83, 84, 85, 86, 87, 88, 89, 90, 91, 92, 93] [0, 1, 2, 3, 4, 5, 6, 7, 8, 9, 10, 11, 12, 13, 14, 15, 16, 17, 18, 19, 20, 21, 22, 23, 24, 25, 26, 27, 28, 29, 30, 31, 32, 33, 34, 35, 36, 37, 38, 39, 40, 41, 42, 43, 44, 45, 46, 47, 48, 49, 50, 51, 52, 53, 54, 55, 56, 57, 58, 59, 60, 61, 62, 63, 64, 65, 66, 67, 68, 69, 70, 71, 72, 73, 74, 75, 76, 77, 78, 79, 80, 81, 82, 83, 84, 85, 86, 87, 88, 89, 90, 91, 92, 93, 94, 95, 96, 97, 98, 99] (fun n' sl h' => ∃ (k : Nat), sl = [(68, .sc (.int .i64 (k : Int)))] ∧ n' = A.length - k ∧ k ≤ A.length ∧ Sep (R.add ca) ([(b12, .cells 58 .own [.int .i64 (lastB A (v.x, v.y) k).1, .int .i64 (lastB A (v.x, v.y) k).2])] :: vwO id lv mk v :: M) h') ?_ ?_
          · refine ⟨_, _, ⟨0, rfl, rfl, Nat.zero_le _, hs⟩, EnvB.of rfl⟩
          clear hs
          rintro _ _ us _ h6 ⟨k, rfl, rfl, hk, hs⟩ he
          refine W_spell he rfl ?_
          clear he
          unfold m13_l23
          by_cases hlt2 : k < A.length
          · have hik := hin k hlt2
            repeat' (first
              | (refine K_ops ?_; first
                | refine W_fastB rfl ?_
                | refine W_nil ?_
                | (refine K_guard ?_; first
                  | refine W_guard_on rfl ?_
                  | refine W_guard_off rfl rfl (W_norm rfl ?_)
                )
                | (refine K_call ?_; first
                  | (refine W_callsN 36 rfl (w36 (A.getD (k : Int).toNat spotE.dflt) (v.x, v.y) _) rfl ?_; rintro _ h7 ⟨rfl, t⟩; replace hs := hs.call t; try simp only [cell_back, attr_back, List.set_cons_zero, List.set_cons_succ, List.eraseIdx_cons_succ, List.eraseIdx_zero, List.tail_cons, List.nil_append, List.cons_append] at hs; refine W_norm rfl ?_)
                )
                | (refine K_bin ?_; first
                  | (refine W_add rfl rfl (IntWalk.i64_in _ (by first | omega | (simp only [List.length_set, List.length_append, List.length_take, List.length_drop, List.length_replicate, List.length_cons, List.length_nil, decs_length, List.length_map]; omega))) ?_; refine W_norm rfl ?_)
                )
                | (refine K_pick ?_; first
                  | refine W_pick_t rfl rfl (W_norm rfl ?_)
                  | refine W_pick_f rfl rfl (W_norm rfl ?_)
                )
                | (refine K_index ?_; first
                  | (refine W_indexR rfl rfl (by assumption) rfl ⟨(by first | omega | (simp only [List.length_set, List.length_append, List.length_take, List.length_drop, List.length_replicate, List.length_cons, List.length_nil, decs_length, List.length_map]; omega)), (by first | omega | (simp only [List.length_set, List.length_append, List.length_take, List.length_drop, List.length_replicate, List.length_cons, List.length_nil, decs_length, List.length_map]; omega))⟩ ?_; intro _ _ _; refine W_norm rfl ?_)
                )
                | (refine K_load ?_; first
                  | (refine W_loadRA hs rfl (by assumption) rfl ?_; refine W_norm rfl ?_)
                  | (refine W_loadCA hs 0 rfl rfl rfl ?_; refine W_norm rfl ?_)
                  | (refine W_loadCA hs 2 rfl rfl rfl ?_; refine W_norm rfl ?_)
                )
                | (refine K_store ?_; first
                  | (refine W_storeC hs 0 rfl rfl rfl rfl (by first | decide | assumption) rfl rfl ?_; clear hs; intro _ hs; try simp only [cell_back, attr_back, List.set_cons_zero, List.set_cons_succ, List.eraseIdx_cons_succ, List.eraseIdx_zero, List.tail_cons, List.nil_append, List.cons_append] at hs; refine W_norm rfl ?_)
                  | (refine W_storeC hs 1 rfl rfl rfl rfl (by first | decide | assumption) rfl rfl ?_; clear hs; intro _ hs; try simp only [cell_back, attr_back, List.set_cons_zero, List.set_cons_succ, List.eraseIdx_cons_succ, List.eraseIdx_zero, List.tail_cons, List.nil_append, List.cons_append] at hs; refine W_norm rfl ?_)
                )
                | (refine W_allocS hs ?_; clear hs; intro al _ hs; try simp only [cell_back, attr_back, List.set_cons_zero, List.set_cons_succ, List.eraseIdx_cons_succ, List.eraseIdx_zero, List.tail_cons, List.nil_append, List.cons_append] at hs; refine W_norm rfl ?_)
              )
              | (refine K_code ?_; first
                | refine W_seq ?_
                | refine W_ops ?_
                | refine W_cond_f rfl ?_
                | (refine W_cond rfl (fun hc => ?_) (fun hc => ?_) <;> (try rw [hc]) <;> (try simp only [decide_eq_true_eq, decide_eq_false_iff_not, beq_iff_eq, beq_eq_false_iff_ne, bne_iff_ne, bne_eq_false_iff_eq, Bool.not_eq_true', Bool.not_eq_false', Int.not_lt, Int.not_le, ne_eq, reduceCtorEq, not_true_eq_false, not_false_eq_true, Decidable.not_not] at hc) <;> (try (exfalso; omega)) <;> (try refine W_norm rfl ?_))
                | refine W_skip ?_
                | refine W_block ?_
                | refine W_draw rfl ?_
              )
              | refine seqK_n ?_
              | refine blockK_n ?_
              | refine invK_n ?_)
            · rw [Int.toNat_natCast] at hc
              simp only [Int.toNat_natCast] at hs
              have e := lastB_hit (p := (v.x, v.y)) hlt2 hc
              refine ⟨_, ?_, _, ⟨k + 1, rfl, rfl, ?_, ?_⟩, EnvB.of rfl⟩
              · omega
              · omega
              · rw [e]; exact hs.drop 0
            · rw [Int.toNat_natCast] at hc
              have e := lastB_miss (p := (v.x, v.y)) hlt2 hc
              refine ⟨_, ?_, _, ⟨k + 1, rfl, rfl, ?_, ?_⟩, EnvB.of rfl⟩
              · omega
              · omega
              · rw [e]; exact hs.drop 0
          · obtain rfl : k = A.length := by omega
            have hpk := lastB_end (p := (v.x, v.y)) hal0
            have hik := inV_lt ok.l (hAin _ (pickB_mem hpk))
            repeat' (first
              | (refine K_ops ?_; first
                | refine W_fastB rfl ?_
                | refine W_nil ?_
                | (refine K_call ?_; first
                  | (refine W_callsN 12 rfl (w12 (hs.drop 0) hVm ok (x := (lastB A (v.x, v.y) A.length).1) (y := (lastB A (v.x, v.y) A.length).2) (by omega) (by omega)) rfl ?_; rintro _ h7 ⟨rfl, hs⟩; refine W_norm rfl ?_)
                )
                | (refine K_load ?_; first
                  | (refine W_loadC hs 0 rfl rfl rfl ?_; refine W_norm rfl ?_)
                )
              )
              | (refine K_code ?_; first
                | refine W_seq ?_
                | refine W_ops ?_
                | (refine W_cond rfl (fun hc => ?_) (fun hc => ?_) <;> (try rw [hc]) <;> (try simp only [decide_eq_true_eq, decide_eq_false_iff_not, beq_iff_eq, beq_eq_false_iff_ne, bne_iff_ne, bne_eq_false_iff_eq, Bool.not_eq_true', Bool.not_eq_false', Int.not_lt, Int.not_le, ne_eq, reduceCtorEq, not_true_eq_false, not_false_eq_true, Decidable.not_not] at hc) <;> (try (exfalso; omega)) <;> (try refine W_norm rfl ?_))
                | refine W_ret ?_
                | refine W_exit ?_
              )
              | refine seqK_n ?_
              | refine seqK_x ?_
              | refine blockK_e ?_
              | refine invK_x ?_
              | (refine fnK_r rfl ?_; try dsimp only [gd_z, gd_s]))
            have e : pickL A (v.x, v.y) true = some (lastB A (v.x, v.y) A.length) := hpk
            rw [e]
            exact ⟨_, rfl, rfl, hs.unadd⟩
  · have ef : findR v q back = (v, 1) := by unfold findR; rw [if_neg h32]
    rw [ef]
    refine W_enter d13 ?_
    show W _ (.code m13_code [.sc (.ptr id 0), .sc (.str q), bo back, undefA, undefA, undefA, undefA, undefA, undefA, undefA, undefA, undefA, undefA, undefA, undefA, undefA, undefA, undefA, undefA, undefA, undefA, undefA, undefA, undefA, undefA, undefA, undefA, undefA, undefA, undefA, undefA, undefA, undefA, undefA, undefA, undefA, undefA, undefA, undefA, undefA, undefA, undefA, undefA, undefA, undefA, undefA, undefA, undefA, undefA, undefA, undefA, undefA, undefA, undefA, undefA, undefA, undefA, undefA, undefA, undefA, undefA, undefA, undefA, undefA, undefA, undefA, undefA, undefA, undefA, undefA, undefA, undefA, undefA, undefA, undefA, undefA, undefA, undefA, undefA, undefA, undefA, undefA, undefA, undefA, undefA, undefA, undefA, undefA, undefA, undefA, undefA, undefA, undefA, undefA, undefA, undefA, undefA, undefA, undefA, undefA] _) _
    unfold m13_code
    repeat' (first
      | (refine K_ops ?_; first
        | refine W_fastB rfl ?_
        | refine W_nil ?_
        | (refine K_guard ?_; first
          | refine W_guard_on rfl ?_
          | refine W_guard_off rfl rfl (W_norm rfl ?_)
          | (refine W_guardF rfl (fun hc => ?_) (fun hc => ?_) <;> (try rw [hc]) <;> (try simp only [decide_eq_true_eq, decide_eq_false_iff_not, beq_iff_eq, beq_eq_false_iff_ne, bne_iff_ne, bne_eq_false_iff_eq, Bool.not_eq_true', Bool.not_eq_false', Int.not_lt, Int.not_le, ne_eq, reduceCtorEq, not_true_eq_false, not_false_eq_true, Decidable.not_not] at hc) <;> (try (exfalso; omega)) <;> (try refine W_norm rfl ?_))
        )
        | (refine K_call ?_; first
          | (refine W_callsN 33 rfl (w33 hs hl ok1) rfl ?_; rintro _ h ⟨rfl, rfl⟩; refine W_norm rfl ?_)
        )
        | (refine K_pick ?_; first
          | refine W_pick_t rfl rfl (W_norm rfl ?_)
          | refine W_pick_f rfl rfl (W_norm rfl ?_)
        )
      )
      | (refine K_code ?_; first
        | refine W_seq ?_
        | refine W_ops ?_
        | refine W_cond_t rfl ?_
        | refine W_cond_f rfl ?_
        | (refine W_cond rfl (fun hc => ?_) (fun hc => ?_) <;> (try rw [hc]) <;> (try simp only [decide_eq_true_eq, decide_eq_false_iff_not, beq_iff_eq, beq_eq_false_iff_ne, bne_iff_ne, bne_eq_false_iff_eq, Bool.not_eq_true', Bool.not_eq_false', Int.not_lt, Int.not_le, ne_eq, reduceCtorEq, not_true_eq_false, not_false_eq_true, Decidable.not_not] at hc) <;> (try (exfalso; omega)) <;> (try refine W_norm rfl ?_))
        | refine W_ret ?_
        | refine W_block ?_
      )
      | refine seqK_n ?_
      | refine seqK_r ?_
      | refine blockK_r ?_
      | (refine fnK_r rfl ?_; try dsimp only [gd_z, gd_s]))
    all_goals exact ⟨_, rfl, rfl, hs⟩
end Go.Proofs.YtbkhjpclnfljbaaDoor
/- Views: what is selected. -/
set_option linter.unusedSimpArgs false
set_option linter.unusedVariables false
set_option maxHeartbeats 1000000
set_option maxRecDepth 100000
namespace Go.Proofs.YtbkhjpclnfljbaaDoor
open Go Go.Jx

theorem set_same {α : Type} {M : List α} {k : Nat} {c : α} (hk : M[k]? = some c) : M.set k c = M := by
  apply List.ext_getElem?
  intro i
  rw [List.getElem?_set]
  split
  · rename_i e
    subst e
    rw [if_pos (List.getElem?_eq_some_iff.1 hk).1, hk]
  · rfl
theorem intsB_flat (q : List UInt8) : (intsB q).flatMap (intEl .u8).enc = q.map fun b => SV.int .u8 (b.toNat : Int) := by
  induction q with
  | nil => rfl
  | cons b q ih =>
    have : intsB (b :: q) = (b.toNat : Int) :: intsB q := rfl
    rw [this, List.flatMap_cons, ih]; rfl
theorem W_appStr {D : Nat → Option MFunc} {Q : Ex → List AV → Heap → Prop} {e : List AV} {h : Heap} {dst : Option Nat} {r : List MI} {R : Ro} {M : List Hp} {v : SV} {L : List Int} {c : Hp} {t : TypeId} {zero : List SV} {x y : Rnd} {q : List UInt8}
    (s : Sep R M h) (k : Nat) (hs : rd e x = .sc v) (hx : rd e y = .sc (.str q)) (p : AccS (intEl .u8) t v L c) (hk : M[k]? = some c) (hr : 0 < 1 ∧ (4 * (L.length + q.length) + 1000) * 1 ≤ 2 ^ 48)
    (K : ∀ v' c' h', AccS (intEl .u8) t v' (L ++ intsB q) c' → (q = [] → v' = v) → Sep R (M.set k c') h' → W D (.ops r (put e dst (.sc v')) h') Q) : W D (.ops (⟨dst, .append t 1 1 zero x y, none⟩ :: r) e h) Q := by
  have hil := intsB_length q
  have h1 : lenA (.sc (.str q)) = some (intsB q).length := by rw [hil]; rfl
  have h2 : firstA 1 (intsB q).length (.sc (.str q)) h = some ((intsB q).flatMap (intEl .u8).enc) := by
    show some _ = some _
    rw [hil, List.take_of_length_le (Nat.le_refl _), intsB_flat]
  by_cases h0 : q = []
  · subst h0
    have hA : appendA t 1 1 (.sc v) (.sc (.str [])) h = some (.sc v, h) := by
      unfold appendA
      simp only [lenA, firstA, List.length_nil, if_true]
      rcases p.1 with ⟨_, _, rfl | ⟨b, rfl⟩⟩ | ⟨id, kd, rfl, _, _⟩
      · rfl
      · rfl
      · simp
    refine W_act rfl (v := .sc v) (h' := h) ?_ (K v c h (by rw [show intsB [] = [] from rfl, List.append_nil]; exact p) (fun _ => rfl) (by rw [set_same hk]; exact s))
    show appendA t 1 1 (rd e x) (rd e y) h = _
    rw [hs, hx]; exact hA
  · obtain ⟨v', c', h', h3, h4, h5, h6⟩ := append_own p.1 p.2 s hk h1 h2 (roomA_of (by rw [hil]; exact hr))
    refine W_act rfl (v := .sc v') (h' := h') ?_ (K v' c' h' ⟨h4, h5⟩ (fun hh => absurd hh h0) h6)
    show appendA t 1 1 (rd e x) (rd e y) h = _
    rw [hs, hx]; exact h3
theorem w37 {R : Ro} {M : List Hp} {h : Heap} {id : Nat} {p v : SV} {s : List UInt8} {c : Hp} (hs : Sep R ([(id, .cells 83 .own [p, v])] :: c :: M) h) (hb : Bld id p v s c) (hl : s.length ≤ 900000000) :
    Wc DD 37 [.sc (.ptr id 0), .sc (.int .u8 10)] h fun w h' => w = .sc .nili ∧ ∃ p' v' c', Bld id p' v' (s ++ [10]) c' ∧ Sep R ([(id, .cells 83 .own [p', v'])] :: c' :: M) h' := by
  obtain ⟨h1, h2, h3⟩ := hb
  have hln := h2.ln
  have hil := intsB_length s
  refine W_enter d37 ?_
  show W _ (.code m37_code [.sc (.ptr id 0), .sc (.int .u8 10), undefA, undefA, undefA, undefA, undefA, undefA, undefA, undefA, undefA, undefA, undefA, undefA, undefA, undefA, undefA] _) _
  unfold m37_code
  repeat' (first
    | (refine K_ops ?_; first
      | refine W_fastB rfl ?_
      | refine W_nil ?_
      | (refine K_call ?_; first
        | (refine W_callsN 52 rfl (w52 hs h1) rfl ?_; rintro _ h4 ⟨rfl, hs⟩; refine W_norm rfl ?_)
      )
      | (refine K_load ?_; first
        | (refine W_loadC hs 0 rfl rfl rfl ?_; refine W_norm rfl ?_)
      )
      | (refine K_store ?_; first
        | (refine W_storeC hs 0 rfl rfl rfl rfl (by first | decide | assumption) rfl rfl ?_; clear hs; intro _ hs; try simp only [cell_back, attr_back, List.set_cons_zero, List.set_cons_succ, List.eraseIdx_cons_succ, List.eraseIdx_zero, List.tail_cons, List.nil_append, List.cons_append] at hs; refine W_norm rfl ?_)
      )
      | (refine K_bslice ?_; first
        | (refine W_appB1 (intEl .u8) hs 1 rfl rfl rfl (by assumption) rfl rfl rfl ⟨by decide, (by first | omega | (simp only [List.length_set, List.length_append, List.length_take, List.length_drop, List.length_replicate, List.length_cons, List.length_nil, decs_length, List.length_map]; omega))⟩ ?_; clear hs; intro _ _ _ _ _ hs; try simp only [cell_back, attr_back, List.set_cons_zero, List.set_cons_succ, List.eraseIdx_cons_succ, List.eraseIdx_zero, List.tail_cons, List.nil_append, List.cons_append] at hs; refine W_norm rfl ?_)
      )
    )
    | (refine K_code ?_; first
      | refine W_seq ?_
      | refine W_ops ?_
      | refine W_ret ?_
    )
    | refine seqK_n ?_
    | (refine fnK_r rfl ?_; try dsimp only [gd_z, gd_s]))
  exact ⟨_, rfl, rfl, _, _, _, ⟨.inr rfl, by rw [intsB_append]; assumption, fun hh => by simp at hh⟩, hs⟩
theorem w38 {R : Ro} {M : List Hp} {h : Heap} {id : Nat} {p v : SV} {s q : List UInt8} {c : Hp} (hs : Sep R ([(id, .cells 83 .own [p, v])] :: c :: M) h) (hb : Bld id p v s c) (hl : s.length + q.length ≤ 900000000) :
    Wc DD 38 [.sc (.ptr id 0), .sc (.str q)] h fun w h' => w = .tup [i64 q.length, .sc .nili] ∧ ∃ p' v' c', Bld id p' v' (s ++ q) c' ∧ Sep R ([(id, .cells 83 .own [p', v'])] :: c' :: M) h' := by
  obtain ⟨h1, h2, h3⟩ := hb
  have hln := h2.ln
  have hil := intsB_length s
  refine W_enter d38 ?_
  show W _ (.code m38_code [.sc (.ptr id 0), .sc (.str q), undefA, undefA, undefA, undefA, undefA, undefA, undefA, undefA, undefA, undefA, undefA, undefA, undefA, undefA, undefA, undefA, undefA] _) _
  unfold m38_code
  repeat' (first
    | (refine K_ops ?_; first
      | refine W_fastB rfl ?_
      | refine W_nil ?_
      | (refine W_appStr hs 1 rfl rfl h2 rfl ⟨by decide, by omega⟩ ?_; clear hs; intro v2 c2 h2' ha hv2 hs; simp only [List.set_cons_succ, List.set_cons_zero] at hs; refine W_norm rfl ?_)
      | (refine K_call ?_; first
        | (refine W_callsN 52 rfl (w52 hs h1) rfl ?_; rintro _ h4 ⟨rfl, hs⟩; refine W_norm rfl ?_)
      )
      | (refine K_load ?_; first
        | (refine W_loadC hs 0 rfl rfl rfl ?_; refine W_norm rfl ?_)
      )
      | (refine K_store ?_; first
        | (refine W_storeC hs 0 rfl rfl rfl rfl (by first | decide | assumption) rfl rfl ?_; clear hs; intro _ hs; try simp only [cell_back, attr_back, List.set_cons_zero, List.set_cons_succ, List.eraseIdx_cons_succ, List.eraseIdx_zero, List.tail_cons, List.nil_append, List.cons_append] at hs; refine W_norm rfl ?_)
      )
    )
    | (refine K_code ?_; first
      | refine W_seq ?_
      | refine W_ops ?_
      | refine W_ret ?_
    )
    | refine seqK_n ?_
    | (refine fnK_r rfl ?_; try dsimp only [gd_z, gd_s]))
  exact ⟨_, rfl, rfl, _, _, _, ⟨.inr rfl, by rw [intsB_append]; exact ha, fun hh => by
    obtain ⟨e1, e2⟩ := List.append_eq_nil_iff.1 hh
    rw [hv2 e2]; exact h3 e1⟩, hs⟩

theorem w39 {g : LnH} {C : List Cell} {A : Nat} {b : Int} {h : Heap} (hv : SlR cellE (Now h) g.v C) (hC1 : 1 ≤ C.length) (hC2 : C.length ≤ 1000) (hr : ∀ c ∈ C, -2147483648 ≤ c.r ∧ c.r ≤ 2147483647) (hA : A ≤ C.length) (hb : 0 ≤ b ∧ b < C.length) :
    Wc DD 39 [.agg (lnE.enc g), i64 (A : Int), i64 b] h fun w h' => w = .sc (.str (partT ⟨C, g.j, g.s⟩ A b)) ∧ Sep (Now h) [] h' := by
  have hs := Sep.entry h
  have hln := hv.ln
  refine W_enter d39 ?_
  show W _ (.code m39_code [.agg (lnE.enc g), i64 (A : Int), i64 b, undefA, undefA, undefA, undefA, undefA, undefA, undefA, undefA, undefA, undefA, undefA, undefA, undefA, undefA, undefA, undefA, undefA, undefA, undefA, undefA, undefA, undefA, undefA, undefA, undefA, undefA, undefA, undefA, undefA, undefA, undefA, undefA, undefA, undefA, undefA, undefA, undefA, undefA, undefA, undefA, undefA, undefA, undefA, undefA, undefA, undefA, undefA, undefA, undefA, undefA, undefA, undefA, undefA, undefA, undefA, undefA, undefA, undefA] _) _
  unfold m39_code
  obtain ⟨bb, hbb⟩ : ∃ bb : Int, bb = if b = (C.length : Int) - 1 ∧ (g.j = true ∧ g.s = true) then b - 1 else b := ⟨_, rfl⟩
  repeat' (first
    | (refine K_ops ?_; first
      | refine W_fastB rfl ?_
      | refine W_nil ?_
      | (refine K_guard ?_; first
        | refine W_guard_on rfl ?_
        | refine W_guard_off rfl rfl (W_norm rfl ?_)
        | (refine W_guardT rfl (fun hc => ?_) (fun hc => ?_) <;> (try rw [hc]) <;> (try simp only [decide_eq_true_eq, decide_eq_false_iff_not, beq_iff_eq, beq_eq_false_iff_ne, bne_iff_ne, bne_eq_false_iff_eq, Bool.not_eq_true', Bool.not_eq_false', Int.not_lt, Int.not_le, ne_eq, reduceCtorEq, not_true_eq_false, not_false_eq_true, Decidable.not_not] at hc) <;> (try (exfalso; omega)) <;> (try refine W_norm rfl ?_))
      )
      | (refine W_lenL rfl (by first | assumption | exact SlR.ln (by assumption) | exact AccS.ln (by assumption) | exact OwnS.ln (by assumption) | exact VwO.ln (by assumption) | exact OwnP.ln (by assumption) | exact Len.sl) ?_; refine W_norm rfl ?_)
      | (refine K_bin ?_; first
        | (refine W_sub rfl rfl (IntWalk.i64_in _ (by first | omega | (simp only [List.length_set, List.length_append, List.length_take, List.length_drop, List.length_replicate, List.length_cons, List.length_nil, decs_length, List.length_map]; omega))) ?_; refine W_norm rfl ?_)
      )
      | (refine K_pick ?_; first
        | refine W_pick_t rfl rfl (W_norm rfl ?_)
        | refine W_pick_f rfl rfl (W_norm rfl ?_)
      )
      | (refine K_load ?_; first
        | (refine W_loadC hs 0 rfl rfl rfl ?_; refine W_norm rfl ?_)
      )
      | (refine W_boxS hs rfl rfl ?_; clear hs; intro bx _ hs; try simp only [cell_back, attr_back, List.set_cons_zero, List.set_cons_succ, List.eraseIdx_cons_succ, List.eraseIdx_zero, List.tail_cons, List.nil_append, List.cons_append] at hs; refine W_norm rfl ?_)
    )
    | (refine K_code ?_; first
      | (refine W_midB (a := .seq (.ops m39_r3) _) [2, 19, 20, 21, 22, 23, 24, 25, 26, 27, 28, 29] [0, 1, 2, 3, 4, 5, 6, 7, 8, 9, 10, 11, 12, 13, 14, 15, 16, 17, 18, 19, 20, 21, 22, 23, 24, 25, 26, 27, 28, 29, 30, 31, 32, 33, 34, 35, 36, 37, 38, 39, 40, 41, 42, 43, 44, 45, 46, 47, 48, 49, 50, 51, 52, 53, 54, 55, 56, 57, 58, 59, 60] (fun sl h' => sl = [(2, i64 bb)] ∧ Sep (Now h) [[(bx, .cells 27 .own (lnE.enc g))]] h') ?_ ?_)
      | refine W_seq ?_
      | refine W_ops ?_
      | refine W_cond_f rfl ?_
      | (refine W_cond rfl (fun hc => ?_) (fun hc => ?_) <;> (try rw [hc]) <;> (try simp only [decide_eq_true_eq, decide_eq_false_iff_not, beq_iff_eq, beq_eq_false_iff_ne, bne_iff_ne, bne_eq_false_iff_eq, Bool.not_eq_true', Bool.not_eq_false', Int.not_lt, Int.not_le, ne_eq, reduceCtorEq, not_true_eq_false, not_false_eq_true, Decidable.not_not] at hc) <;> (try (exfalso; omega)) <;> (try refine W_norm rfl ?_))
      | refine W_skip ?_
    )
    | refine seqK_n ?_
    | refine midK_n ?_)
  iterate 4
    · first
      | (rw [show bb = b - 1 by rw [hbb, if_pos ⟨by omega, by assumption, by assumption⟩]]; exact ⟨_, ⟨rfl, hs⟩, EnvB.of rfl⟩)
      | (rw [show bb = b by rw [hbb, if_neg (by rintro ⟨e1, e2, e3⟩; first | omega | (rw [e2] at hc; cases hc) | (rw [e3] at hc; cases hc))]]; exact ⟨_, ⟨rfl, hs⟩, EnvB.of rfl⟩)
  clear hs
  rintro _ us _ h3 ⟨rfl, hs⟩ he
  refine W_spell he rfl ?_
  clear he
  have hpt : partT ⟨C, g.j, g.s⟩ (A : Int) b = if b = (C.length : Int) - 1 ∧ g.j = false then trimB (segB C A (bb - A + 1).toNat) 32 else segB C A (bb - A + 1).toNat := by
    unfold partT
    simp only [Int.toNat_natCast, ← hbb]
  have hbr : bb ≤ b := by rw [hbb]; split <;> omega
  have hbr2 : -1 ≤ bb := by rw [hbb]; split <;> omega
  repeat' (first
    | (refine K_ops ?_; first
      | refine W_fastB rfl ?_
      | refine W_nil ?_
      | (refine W_allocS hs ?_; clear hs; intro al _ hs; try simp only [cell_back, attr_back, List.set_cons_zero, List.set_cons_succ, List.eraseIdx_cons_succ, List.eraseIdx_zero, List.tail_cons, List.nil_append, List.cons_append] at hs; refine W_norm rfl ?_)
    )
    | (refine K_code ?_; first
      | refine W_seq ?_
      | refine W_ops ?_
      | refine W_block ?_
    )
    | refine seqK_n ?_)
  obtain ⟨b0, hb0⟩ : ∃ b0, b0 = al := ⟨_, rfl⟩
  subst hb0
  refine W_loopB [10, 11, 31, 32, 33, 34, 35, 36, 37, 38, 39, 40, 41, 42, 43, 44, 45, 46, 47, 48, 49, 50, 51] [0, 1, 2, 3, 4, 5, 6, 7, 8, 9, 10, 11, 12, 13, 14, 15, 16, 17, 18, 19, 20, 21, 22, 23, 24, 25, 26, 27, 28, 29, 30, 31, 32, 33, 34, 35, 36, 37, 38, 39, 40, 41, 42, 43, 44, 45, 46, 47, 48, 49, 50, 51, 52, 53, 54, 55, 56, 57, 58, 59, 60] (fun n' sl h' => ∃ (n : Nat) (p bu : SV) (c : Hp), sl = [(10, .sc (.int .i64 ((A : Int) + (n : Int))))] ∧ n' = (bb - A + 1).toNat - n ∧ n ≤ (bb - A + 1).toNat ∧ Bld b0 p bu (segB C A n) c ∧ Sep (Now h) [[(b0, .cells 83 .own [p, bu])], c, [(bx, .cells 27 .own (lnE.enc g))]] h') ?_ ?_
  · refine ⟨_, _, ⟨0, .nilp, .nils, [], rfl, rfl, Nat.zero_le _, ?_, ?_⟩, EnvB.of rfl⟩
    · exact ⟨.inl rfl, AccS.nil _, fun _ => rfl⟩
    · exact hs.sublist (by simp)
  clear hs
  rintro _ _ us2 _ h4 ⟨n, p, bu, c, rfl, rfl, hn, hB, hs⟩ he
  refine W_spell he rfl ?_
  clear he
  unfold m39_l7
  have hsl := segB_length C A n
  by_cases hlt : n < (bb - A + 1).toNat
  · have hi : A + n < C.length := by omega
    have hit : ((A : Int) + (n : Int)).toNat = A + n := by omega
    have hrk := hr _ (getD_mem' (d := cell0) hi)
    have hrk2 : -2147483648 ≤ (C.getD ((A : Int) + (n : Int)).toNat cellE.dflt).r ∧ (C.getD ((A : Int) + (n : Int)).toNat cellE.dflt).r ≤ 2147483647 := by rw [hit]; exact hrk
    have hss := segB_succ C A n
    repeat' (first
      | (refine K_ops ?_; first
        | refine W_fastB rfl ?_
        | refine W_nil ?_
        | (refine K_guard ?_; first
          | refine W_guard_on rfl ?_
          | refine W_guard_off rfl rfl (W_norm rfl ?_)
          | (refine W_guardF rfl (fun hc => ?_) (fun hc => ?_) <;> (try rw [hc]) <;> (try simp only [decide_eq_true_eq, decide_eq_false_iff_not, beq_iff_eq, beq_eq_false_iff_ne, bne_iff_ne, bne_eq_false_iff_eq, Bool.not_eq_true', Bool.not_eq_false', Int.not_lt, Int.not_le, ne_eq, reduceCtorEq, not_true_eq_false, not_false_eq_true, Decidable.not_not] at hc) <;> (try (exfalso; omega)) <;> (try refine W_norm rfl ?_))
        )
        | (refine K_call ?_; first
          | (refine W_callsN 50 rfl (w50 (hs.drop 0) hB (by omega) hrk2) rfl ?_; rintro _ h5 ⟨x, rfl, p', u', c', hb', hs⟩; refine W_norm rfl ?_)
        )
        | (refine K_bin ?_; first
          | (refine W_add rfl rfl (IntWalk.i64_in _ (by first | omega | (simp only [List.length_set, List.length_append, List.length_take, List.length_drop, List.length_replicate, List.length_cons, List.length_nil, decs_length, List.length_map]; omega))) ?_; refine W_norm rfl ?_)
        )
        | (refine K_pick ?_; first
          | refine W_pick_t rfl rfl (W_norm rfl ?_)
          | refine W_pick_f rfl rfl (W_norm rfl ?_)
        )
        | (refine K_index ?_; first
          | (refine W_indexR rfl rfl (by assumption) rfl ⟨(by first | omega | (simp only [List.length_set, List.length_append, List.length_take, List.length_drop, List.length_replicate, List.length_cons, List.length_nil, decs_length, List.length_map]; omega)), (by first | omega | (simp only [List.length_set, List.length_append, List.length_take, List.length_drop, List.length_replicate, List.length_cons, List.length_nil, decs_length, List.length_map]; omega))⟩ ?_; intro _ _ _; refine W_norm rfl ?_)
        )
        | (refine K_load ?_; first
          | (refine W_loadRA hs rfl (by assumption) rfl ?_; refine W_norm rfl ?_)
          | (refine W_loadC hs 0 rfl rfl rfl ?_; refine W_norm rfl ?_)
          | (refine W_loadC hs 2 rfl rfl rfl ?_; refine W_norm rfl ?_)
        )
        | (refine K_store ?_; first
          | (refine W_storeC hs 0 rfl rfl rfl rfl (by first | decide | assumption) rfl rfl ?_; clear hs; intro _ hs; try simp only [cell_back, attr_back, List.set_cons_zero, List.set_cons_succ, List.eraseIdx_cons_succ, List.eraseIdx_zero, List.tail_cons, List.nil_append, List.cons_append] at hs; refine W_norm rfl ?_)
        )
        | (refine W_allocS hs ?_; clear hs; intro al _ hs; try simp only [cell_back, attr_back, List.set_cons_zero, List.set_cons_succ, List.eraseIdx_cons_succ, List.eraseIdx_zero, List.tail_cons, List.nil_append, List.cons_append] at hs; refine W_norm rfl ?_)
      )
      | (refine K_code ?_; first
        | refine W_seq ?_
        | refine W_ops ?_
        | refine W_cond_t rfl ?_
        | (refine W_cond rfl (fun hc => ?_) (fun hc => ?_) <;> (try rw [hc]) <;> (try simp only [decide_eq_true_eq, decide_eq_false_iff_not, beq_iff_eq, beq_eq_false_iff_ne, bne_iff_ne, bne_eq_false_iff_eq, Bool.not_eq_true', Bool.not_eq_false', Int.not_lt, Int.not_le, ne_eq, reduceCtorEq, not_true_eq_false, not_false_eq_true, Decidable.not_not] at hc) <;> (try (exfalso; omega)) <;> (try refine W_norm rfl ?_))
        | refine W_skip ?_
        | refine W_block ?_
      )
      | refine seqK_n ?_
      | refine blockK_n ?_
      | refine invK_n ?_)
    · have hn0 : n = 0 := by omega
      rw [if_pos (.inr hn0)] at hss
      have hb2 : Bld b0 p' u' (segB C A (n + 1)) c' := by
        rw [hss]; rw [hit] at hb'; exact hb'
      refine ⟨_, ?_, _, ⟨n + 1, p', u', c', rfl, rfl, ?_, hb2, hs⟩, EnvB.of rfl⟩ <;> omega
    · rw [hit] at *
      have hw2 : (C.getD (A + n) cell0).w = 2 := by assumption
      rw [if_neg (by rintro (e1 | e1); exact e1 hw2; omega), List.append_nil] at hss
      have hb2 : Bld b0 p bu (segB C A (n + 1)) c := by rw [hss]; exact hB
      refine ⟨_, ?_, _, ⟨n + 1, p, bu, c, rfl, rfl, ?_, hb2, hs.drop 0⟩, EnvB.of rfl⟩ <;> omega
    · have hw2 : (C.getD (A + n) cell0).w ≠ 2 := by rw [hit] at hc; exact hc
      rw [if_pos (.inl hw2)] at hss
      have hb2 : Bld b0 p' u' (segB C A (n + 1)) c' := by
        rw [hss]; rw [hit] at hb'; exact hb'
      refine ⟨_, ?_, _, ⟨n + 1, p', u', c', rfl, rfl, ?_, hb2, hs⟩, EnvB.of rfl⟩ <;> omega
  · obtain rfl : n = (bb - A + 1).toNat := by omega
    repeat' (first
      | (refine K_ops ?_; first
        | refine W_fastB rfl ?_
        | refine W_nil ?_
        | (refine K_guard ?_; first
          | refine W_guard_on rfl ?_
          | refine W_guard_off rfl rfl (W_norm rfl ?_)
          | (refine W_guardT rfl (fun hc => ?_) (fun hc => ?_) <;> (try rw [hc]) <;> (try simp only [decide_eq_true_eq, decide_eq_false_iff_not, beq_iff_eq, beq_eq_false_iff_ne, bne_iff_ne, bne_eq_false_iff_eq, Bool.not_eq_true', Bool.not_eq_false', Int.not_lt, Int.not_le, ne_eq, reduceCtorEq, not_true_eq_false, not_false_eq_true, Decidable.not_not] at hc) <;> (try (exfalso; omega)) <;> (try refine W_norm rfl ?_))
        )
        | (refine K_call ?_; first
          | (refine W_callsN 40 rfl (w40 hs hB (by omega)) rfl ?_; rintro _ h5 ⟨rfl, hs⟩; refine W_norm rfl ?_)
          | (refine W_callsN 53 rfl (w53 _ 32 _ (by omega) (by decide)) rfl ?_; rintro _ h5 ⟨rfl, rfl⟩; refine W_norm rfl ?_)
        )
        | (refine K_pick ?_; first
          | refine W_pick_t rfl rfl (W_norm rfl ?_)
          | refine W_pick_f rfl rfl (W_norm rfl ?_)
        )
        | (refine K_load ?_; first
          | (refine W_loadC hs 2 rfl rfl rfl ?_; refine W_norm rfl ?_)
        )
      )
      | (refine K_code ?_; first
        | refine W_seq ?_
        | refine W_ops ?_
        | refine W_cond_f rfl ?_
        | (refine W_cond rfl (fun hc => ?_) (fun hc => ?_) <;> (try rw [hc]) <;> (try simp only [decide_eq_true_eq, decide_eq_false_iff_not, beq_iff_eq, beq_eq_false_iff_ne, bne_iff_ne, bne_eq_false_iff_eq, Bool.not_eq_true', Bool.not_eq_false', Int.not_lt, Int.not_le, ne_eq, reduceCtorEq, not_true_eq_false, not_false_eq_true, Decidable.not_not] at hc) <;> (try (exfalso; omega)) <;> (try refine W_norm rfl ?_))
        | refine W_skip ?_
        | refine W_ret ?_
        | refine W_exit ?_
      )
      | refine seqK_n ?_
      | refine seqK_r ?_
      | refine seqK_x ?_
      | refine blockK_e ?_
      | refine invK_x ?_
      | (refine fnK_r rfl ?_; try dsimp only [gd_z, gd_s]))
    all_goals refine ⟨_, rfl, ?_, hs.none⟩
    all_goals rw [hpt]
    all_goals first
      | (rw [if_pos ⟨by omega, by assumption⟩]; done)
      | (rw [if_neg (by rintro ⟨e1, e2⟩; first | omega | (rw [e2] at hc; cases hc))]; done)
end Go.Proofs.YtbkhjpclnfljbaaDoor
/- Views: the text that is selected. -/
set_option linter.unusedSimpArgs false
set_option linter.unusedVariables false
set_option maxHeartbeats 1000000
set_option maxRecDepth 100000
namespace Go.Proofs.YtbkhjpclnfljbaaDoor
open Go Go.Jx

theorem atI {e e0 : List AV} {ms ks : List Nat} {i : Nat} {x y : Int} {sl : List (Nat × AV)} (h : x = y) (k : EnvB e0 ms ks ((i, .sc (.int .i64 x)) :: sl) e) : EnvB e0 ms ks ((i, .sc (.int .i64 y)) :: sl) e := h ▸ k
theorem joined_at {L : List Ln} {G : List LnC} (hm : G.map lnOf = L) {i : Nat} (hi : i < G.length) : (L.getD i ln0).joined = ((G.map Prod.fst).getD i lnE.dflt).j := by
  subst hm
  rw [List.getD_eq_getElem?_getD, lnOf_at hi]; rfl
theorem line_at {L : List Ln} {G : List LnC} (hm : G.map lnOf = L) {i : Nat} (hi : i < G.length) : L.getD i ln0 = atL G i := by
  subst hm
  rw [List.getD_eq_getElem?_getD, lnOf_atH hi]; rfl
theorem sel_le (p q : Spot) : (selA p q).2 ≤ (selZ p q).2 := by
  unfold selA selZ
  cases h : bef q p
  · simp only [Bool.false_eq_true, if_false]
    simp only [bef, decide_eq_false_iff_not] at h
    omega
  · simp only [if_true]
    simp only [bef, decide_eq_true_eq] at h
    omega
theorem sel_in {L : List Ln} {p q : Spot} (hp : InV L p) (hq : InV L q) : InV L (selA p q) ∧ InV L (selZ p q) := by
  unfold selA selZ
  cases bef q p <;> simp [hp, hq]
theorem partT_length {L : List Ln} {h : Int} (k : OkL L h) {y a b : Int} (h0 : 0 ≤ y) (h1 : y < L.length) (ha : 0 ≤ a) (hb : b < wid L y) : (partT (L.getD y.toNat ln0) a b).length ≤ 4000 := by
  have hw := (k.wid h0 h1).2
  unfold partT
  simp only
  have hb' : (if b = ((L.getD y.toNat ln0).cells.length : Int) - 1 ∧ (L.getD y.toNat ln0).joined = true ∧ (L.getD y.toNat ln0).short = true then b - 1 else b) ≤ b := by split <;> omega
  generalize (if b = ((L.getD y.toNat ln0).cells.length : Int) - 1 ∧ (L.getD y.toNat ln0).joined = true ∧ (L.getD y.toNat ln0).short = true then b - 1 else b) = b' at hb'
  have h2 := segB_length (L.getD y.toNat ln0).cells a.toNat (b' - a + 1).toNat
  have h3 := trimB_length (segB (L.getD y.toNat ln0).cells a.toNat (b' - a + 1).toNat) 32
  split <;> omega
theorem rowT_length {L : List Ln} {h : Int} (k : OkL L h) {P Z : Spot} (hP : InV L P) (hZ : InV L Z) {y : Int} (h0 : 0 ≤ y) (h1 : y < L.length) : (rowT L P Z y).length ≤ 4001 := by
  unfold rowT
  rw [List.length_append]
  have := partT_length k h0 h1 (a := if y = P.2 then P.1 else 0) (b := if y = Z.2 then Z.1 else wid L y - 1) (by split; exact hP.2.2.1; omega) (by
    split
    · rename_i e; rw [e]; exact hZ.2.2.2
    · omega)
  split
  · simp only [List.length_cons, List.length_nil]; omega
  · simp only [List.length_nil]; omega
theorem linesT_length {L : List Ln} {h : Int} (k : OkL L h) {P Z : Spot} (hP : InV L P) (hZ : InV L Z) (n : Nat) (hn : P.2 + n ≤ L.length) : (linesT L P Z n).length ≤ n * 4001 := by
  induction n with
  | zero => simp [linesT]
  | succ n ih =>
    rw [linesT_succ, List.length_append]
    have h1 := ih (by omega)
    have h2 := rowT_length k hP hZ (y := P.2 + n) (by have := hP.1; omega) (by omega)
    omega
theorem w16 {R : Ro} {M : List Hp} {h : Heap} {id : Nat} {lv mk : SV} {v : Vw} {G : List LnC} (hs : Sep R (vwO id lv mk v :: M) h) (hG : VwR R lv mk v G) (ok : OkV v) :
    Wc DD 16 [.sc (.ptr id 0)] h fun w h' => w = .sc (.str (textV v)) ∧ Sep R (vwO id lv mk v :: M) h' := by
  have hl := hG.ln
  have hlen := hG.len
  have ok1 := ok.l.len
  have ok2 := ok.l.big
  have hln := hG.lns.1
  have hGl : (G.map Prod.fst).length = v.L.length := by rw [List.length_map]; exact hlen
  rcases hG.mr with ⟨hm, rfl⟩ | ⟨a, b, idm, t, kd, hm, rfl, hR⟩
  · have e : textV v = [] := by unfold textV; rw [hm]
    rw [e]
    refine W_enter d16 ?_
    show W _ (.code m16_code [.sc (.ptr id 0), undefA, undefA, undefA, undefA, undefA, undefA, undefA, undefA, undefA, undefA, undefA, undefA, undefA, undefA, undefA, undefA, undefA, undefA, undefA, undefA, undefA, undefA, undefA, undefA, undefA, undefA, undefA, undefA, undefA, undefA, undefA, undefA, undefA, undefA, undefA, undefA, undefA, undefA, undefA, undefA, undefA, undefA, undefA, undefA, undefA, undefA, undefA, undefA, undefA, undefA, undefA, undefA, undefA, undefA, undefA, undefA, undefA, undefA, undefA, undefA, undefA, undefA, undefA, undefA, undefA, undefA, undefA, undefA, undefA, undefA, undefA, undefA, undefA, undefA, undefA, undefA, undefA, undefA, undefA, undefA, undefA, undefA, undefA, undefA, undefA, undefA, undefA, undefA, undefA, undefA, undefA] _) _
    unfold m16_code
    repeat' (first
      | (refine K_ops ?_; first
        | refine W_fastB rfl ?_
        | refine W_nil ?_
        | (refine K_guard ?_; first
          | refine W_guard_on rfl ?_
        )
        | (refine K_call ?_; first
          | (refine W_callsN 33 rfl (w33 hs hl ok1) rfl ?_; rintro _ h ⟨rfl, rfl⟩; refine W_norm rfl ?_)
        )
        | (refine K_bin ?_; first
          | (refine W_nil_ptr_t rfl rfl rfl ?_; refine W_norm rfl ?_)
        )
        | (refine K_pick ?_; first
          | refine W_pick_f rfl rfl (W_norm rfl ?_)
        )
        | (refine K_load ?_; first
          | (refine W_loadC hs 0 rfl rfl rfl ?_; refine W_norm rfl ?_)
        )
      )
      | (refine K_code ?_; first
        | refine W_seq ?_
        | refine W_ops ?_
        | refine W_cond_t rfl ?_
        | refine W_ret ?_
      )
      | refine seqK_n ?_
      | refine seqK_r ?_
      | (refine fnK_r rfl ?_; try dsimp only [gd_z, gd_s]))
    exact ⟨_, rfl, rfl, hs⟩
  · have e : textV v = selT v.L (a, b) (v.x, v.y) := by unfold textV; rw [hm]
    rw [e]
    have hpin : InV v.L (a, b) := by obtain ⟨m1, m2, m3, m4⟩ := ok.mm a b hm; exact ⟨m1, m2, m3, m4⟩
    have hqin : InV v.L (v.x, v.y) := ⟨ok.y0, ok.y1, ok.x0, ok.x1⟩
    obtain ⟨hPin, hZin⟩ := sel_in hpin hqin
    have hPZ := sel_le (a, b) (v.x, v.y)
    have hPt : PtR R idm 0 (spotE.enc (a, b)) := ⟨_, _, _, hR, rfl⟩
    unfold selT
    obtain ⟨P, hP⟩ : ∃ P, P = selA (a, b) (v.x, v.y) := ⟨_, rfl⟩
    obtain ⟨Z, hZ⟩ : ∃ Z, Z = selZ (a, b) (v.x, v.y) := ⟨_, rfl⟩
    rw [← hP] at hPin hPZ ⊢
    rw [← hZ] at hZin hPZ ⊢
    refine W_enter d16 ?_
    show W _ (.code m16_code [.sc (.ptr id 0), undefA, undefA, undefA, undefA, undefA, undefA, undefA, undefA, undefA, undefA, undefA, undefA, undefA, undefA, undefA, undefA, undefA, undefA, undefA, undefA, undefA, undefA, undefA, undefA, undefA, undefA, undefA, undefA, undefA, undefA, undefA, undefA, undefA, undefA, undefA, undefA, undefA, undefA, undefA, undefA, undefA, undefA, undefA, undefA, undefA, undefA, undefA, undefA, undefA, undefA, undefA, undefA, undefA, undefA, undefA, undefA, undefA, undefA, undefA, undefA, undefA, undefA, undefA, undefA, undefA, undefA, undefA, undefA, undefA, undefA, undefA, undefA, undefA, undefA, undefA, undefA, undefA, undefA, undefA, undefA, undefA, undefA, undefA, undefA, undefA, undefA, undefA, undefA, undefA, undefA, undefA] _) _
    unfold m16_code
    repeat' (first
      | (refine K_ops ?_; first
        | refine W_fastB rfl ?_
        | refine W_nil ?_
        | (refine K_guard ?_; first
          | refine W_guard_on rfl ?_
        )
        | (refine K_call ?_; first
          | (refine W_callsN 33 rfl (w33 hs hl ok1) rfl ?_; rintro _ h ⟨rfl, rfl⟩; refine W_norm rfl ?_)
        )
        | (refine K_bin ?_; first
          | (refine W_nil_ptr_f rfl rfl rfl ?_; refine W_norm rfl ?_)
        )
        | (refine K_pick ?_; first
          | refine W_pick_f rfl rfl (W_norm rfl ?_)
        )
        | (refine K_load ?_; first
          | (refine W_loadC hs 0 rfl rfl rfl ?_; refine W_norm rfl ?_)
        )
        | (refine W_allocS hs ?_; clear hs; intro al _ hs; try simp only [cell_back, attr_back, List.set_cons_zero, List.set_cons_succ, List.eraseIdx_cons_succ, List.eraseIdx_zero, List.tail_cons, List.nil_append, List.cons_append] at hs; refine W_norm rfl ?_)
      )
      | (refine K_code ?_; first
        | (refine W_midB (a := .seq (.ops m16_r3) (.draw m16_r4)) [3, 4, 18, 19, 20, 21, 22, 23, 24, 25, 26, 27] [0, 1, 2, 3, 4, 5, 6, 7, 8, 9, 10, 11, 12, 13, 14, 15, 16, 17, 18, 19, 20, 21, 22, 23, 24, 25, 26, 27, 28, 29, 30, 31, 32, 33, 34, 35, 36, 37, 38, 39, 40, 41, 42, 43, 44, 45, 46, 47, 48, 49, 50, 51, 52, 53, 54, 55, 56, 57, 58, 59, 60, 61, 62, 63, 64, 65, 66, 67, 68, 69, 70, 71, 72, 73, 74, 75, 76, 77, 78, 79, 80, 81, 82, 83, 84, 85, 86, 87, 88, 89, 90, 91] (fun sl h' => ∃ (b3 b4 : Nat), sl = [(3, .sc (.ptr b3 0)), (4, .sc (.ptr b4 0))] ∧ Sep R ([(b4, .cells 58 .own [.int .i64 v.x, .int .i64 v.y])] :: [(b3, .cells 58 .own [.int .i64 a, .int .i64 b])] :: vwO id lv (.ptr idm 0) v :: M) h') ?_ ?_)
        | refine W_seq ?_
        | refine W_ops ?_
        | refine W_cond_f rfl ?_
        | refine W_skip ?_
      )
      | refine seqK_n ?_)
    · repeat' (first
        | (refine K_ops ?_; first
          | refine W_fastB rfl ?_
          | refine W_nil ?_
          | (refine K_load ?_; first
            | (refine W_loadRA hs rfl (by assumption) rfl ?_; refine W_norm rfl ?_)
            | (refine W_loadC hs 2 rfl rfl rfl ?_; refine W_norm rfl ?_)
            | (refine W_loadCA hs 2 rfl rfl rfl ?_; refine W_norm rfl ?_)
          )
          | (refine K_store ?_; first
            | (refine W_storeC hs 0 rfl rfl rfl rfl (by first | decide | assumption) rfl rfl ?_; intro _ hs; try simp only [cell_back, attr_back, List.set_cons_zero, List.set_cons_succ, List.eraseIdx_cons_succ, List.eraseIdx_zero, List.tail_cons, List.nil_append, List.cons_append] at hs; refine W_norm rfl ?_)
            | (refine W_storeC hs 1 rfl rfl rfl rfl (by first | decide | assumption) rfl rfl ?_; intro _ hs; try simp only [cell_back, attr_back, List.set_cons_zero, List.set_cons_succ, List.eraseIdx_cons_succ, List.eraseIdx_zero, List.tail_cons, List.nil_append, List.cons_append] at hs; refine W_norm rfl ?_)
          )
        )
        | (refine K_code ?_; first
          | refine W_draws ?_
        )
        | refine W_dstep rfl ?_
        | refine ⟨rfl, fun rc hrec => ?_⟩
        | (refine W_dnilS (by simp only [List.reverse_cons, List.reverse_nil, List.nil_append, List.cons_append]; rfl) (by repeat' first | exact CL_nil _ _ | refine CL_skip rfl ?_ | refine CL_load (by assumption) rfl (by first | exact trivial | (repeat' first | exact trivial | refine ⟨⟨_, rfl, (by refine (congrArg (fun x => Heap.get x _) (RecIs.hh (by assumption))).trans ?_; first | rfl | exact PtR.same_get (by assumption) (by assumption) (by assumption) | exact Sep.same_get (by assumption) (by assumption) 0 0 rfl rfl | exact Sep.same_get (by assumption) (by assumption) 0 1 rfl rfl | exact Sep.same_get (by assumption) (by assumption) 0 2 rfl rfl | exact Sep.same_get (by assumption) (by assumption) 0 3 rfl rfl | exact Sep.same_get (by assumption) (by assumption) 1 0 rfl rfl | exact Sep.same_get (by assumption) (by assumption) 1 1 rfl rfl | exact Sep.same_get (by assumption) (by assumption) 1 2 rfl rfl | exact Sep.same_get (by assumption) (by assumption) 1 3 rfl rfl | exact Sep.same_get (by assumption) (by assumption) 2 0 rfl rfl | exact Sep.same_get (by assumption) (by assumption) 2 1 rfl rfl | exact Sep.same_get (by assumption) (by assumption) 2 2 rfl rfl | exact Sep.same_get (by assumption) (by assumption) 2 3 rfl rfl | exact Sep.same_get (by assumption) (by assumption) 3 0 rfl rfl | exact Sep.same_get (by assumption) (by assumption) 3 1 rfl rfl | exact Sep.same_get (by assumption) (by assumption) 3 2 rfl rfl | exact Sep.same_get (by assumption) (by assumption) 3 3 rfl rfl)⟩, ?_⟩)) (by first | exact trivial | (repeat' first | exact trivial | refine ⟨⟨_, rfl, (by refine (congrArg (fun x => Heap.get x _) (RecIs.hh' (by assumption))).trans ?_; first | rfl | exact PtR.same_get (by assumption) (by assumption) (by assumption) | exact Sep.same_get (by assumption) (by assumption) 0 0 rfl rfl | exact Sep.same_get (by assumption) (by assumption) 0 1 rfl rfl | exact Sep.same_get (by assumption) (by assumption) 0 2 rfl rfl | exact Sep.same_get (by assumption) (by assumption) 0 3 rfl rfl | exact Sep.same_get (by assumption) (by assumption) 1 0 rfl rfl | exact Sep.same_get (by assumption) (by assumption) 1 1 rfl rfl | exact Sep.same_get (by assumption) (by assumption) 1 2 rfl rfl | exact Sep.same_get (by assumption) (by assumption) 1 3 rfl rfl | exact Sep.same_get (by assumption) (by assumption) 2 0 rfl rfl | exact Sep.same_get (by assumption) (by assumption) 2 1 rfl rfl | exact Sep.same_get (by assumption) (by assumption) 2 2 rfl rfl | exact Sep.same_get (by assumption) (by assumption) 2 3 rfl rfl | exact Sep.same_get (by assumption) (by assumption) 3 0 rfl rfl | exact Sep.same_get (by assumption) (by assumption) 3 1 rfl rfl | exact Sep.same_get (by assumption) (by assumption) 3 2 rfl rfl | exact Sep.same_get (by assumption) (by assumption) 3 3 rfl rfl)⟩, ?_⟩)) ?_) ?_)
        | refine midK_n ?_)
      exact ⟨_, ⟨_, _, rfl, hs⟩, EnvB.of rfl⟩
    clear hs
    rintro _ us _ h2 ⟨b3, b4, rfl, hs⟩ he
    refine W_spell he rfl ?_
    clear he
    repeat' (first
      | (refine K_ops ?_; first
        | refine W_nil ?_
        | (refine K_call ?_; first
          | (refine W_callsN 36 rfl (w36 (v.x, v.y) (a, b) _) rfl ?_; rintro _ h7 ⟨rfl, t⟩; replace hs := hs.call t; try simp only [cell_back, attr_back, List.set_cons_zero, List.set_cons_succ, List.eraseIdx_cons_succ, List.eraseIdx_zero, List.tail_cons, List.nil_append, List.cons_append] at hs; refine W_norm rfl ?_)
        )
        | (refine K_load ?_; first
          | (refine W_loadCA hs 0 rfl rfl rfl ?_; refine W_norm rfl ?_)
          | (refine W_loadCA hs 1 rfl rfl rfl ?_; refine W_norm rfl ?_)
        )
        | (refine K_store ?_; first
          | (refine W_storeC hs 0 rfl rfl rfl rfl (by first | decide | assumption) rfl rfl ?_; clear hs; intro _ hs; try simp only [cell_back, attr_back, List.set_cons_zero, List.set_cons_succ, List.eraseIdx_cons_succ, List.eraseIdx_zero, List.tail_cons, List.nil_append, List.cons_append] at hs; refine W_norm rfl ?_)
          | (refine W_storeC hs 1 rfl rfl rfl rfl (by first | decide | assumption) rfl rfl ?_; clear hs; intro _ hs; try simp only [cell_back, attr_back, List.set_cons_zero, List.set_cons_succ, List.eraseIdx_cons_succ, List.eraseIdx_zero, List.tail_cons, List.nil_append, List.cons_append] at hs; refine W_norm rfl ?_)
        )
      )
      | (refine K_code ?_; first
        | (refine W_midB (a := .seq (.ops m16_r5) _) [28, 29, 30, 31, 32] [0, 1, 2, 3, 4, 5, 6, 7, 8, 9, 10, 11, 12, 13, 14, 15, 16, 17, 18, 19, 20, 21, 22, 23, 24, 25, 26, 27, 28, 29, 30, 31, 32, 33, 34, 35, 36, 37, 38, 39, 40, 41, 42, 43, 44, 45, 46, 47, 48, 49, 50, 51, 52, 53, 54, 55, 56, 57, 58, 59, 60, 61, 62, 63, 64, 65, 66, 67, 68, 69, 70, 71, 72, 73, 74, 75, 76, 77, 78, 79, 80, 81, 82, 83, 84, 85, 86, 87, 88, 89, 90, 91] (fun sl h' => sl = [(3, .sc (.ptr b3 0)), (4, .sc (.ptr b4 0))] ∧ Sep R ([(b4, .cells 58 .own [.int .i64 Z.1, .int .i64 Z.2])] :: [(b3, .cells 58 .own [.int .i64 P.1, .int .i64 P.2])] :: vwO id lv (.ptr idm 0) v :: M) h') ?_ ?_)
        | refine W_seq ?_
        | refine W_ops ?_
        | (refine W_cond rfl (fun hc => ?_) (fun hc => ?_) <;> (try rw [hc]) <;> (try simp only [decide_eq_true_eq, decide_eq_false_iff_not, beq_iff_eq, beq_eq_false_iff_ne, bne_iff_ne, bne_eq_false_iff_eq, Bool.not_eq_true', Bool.not_eq_false', Int.not_lt, Int.not_le, ne_eq, reduceCtorEq, not_true_eq_false, not_false_eq_true, Decidable.not_not] at hc) <;> (try (exfalso; omega)) <;> (try refine W_norm rfl ?_))
        | refine W_skip ?_
      )
      | refine seqK_n ?_
      | refine midK_n ?_)
    · rw [show P = (v.x, v.y) by rw [hP]; unfold selA; rw [if_pos hc], show Z = (a, b) by rw [hZ]; unfold selZ; rw [if_pos hc]]
      exact ⟨_, ⟨rfl, hs⟩, EnvB.of rfl⟩
    · rw [show P = (a, b) by rw [hP]; unfold selA; rw [if_neg (by rw [hc]; simp)], show Z = (v.x, v.y) by rw [hZ]; unfold selZ; rw [if_neg (by rw [hc]; simp)]]
      exact ⟨_, ⟨rfl, hs⟩, EnvB.of rfl⟩
    clear hs
    rintro _ us _ h3 ⟨rfl, hs⟩ he
    refine W_spell he rfl ?_
    clear he
    repeat' (first
      | (refine K_ops ?_; first
        | refine W_fastB rfl ?_
        | refine W_nil ?_
        | (refine K_load ?_; first
          | (refine W_loadC hs 2 rfl rfl rfl ?_; refine W_norm rfl ?_)
        )
        | (refine W_allocS hs ?_; clear hs; intro al _ hs; try simp only [cell_back, attr_back, List.set_cons_zero, List.set_cons_succ, List.eraseIdx_cons_succ, List.eraseIdx_zero, List.tail_cons, List.nil_append, List.cons_append] at hs; refine W_norm rfl ?_)
      )
      | (refine K_code ?_; first
        | refine W_seq ?_
        | refine W_ops ?_
        | refine W_block ?_
      )
      | refine seqK_n ?_)
    obtain ⟨b0, hb0⟩ : ∃ b0, b0 = al := ⟨_, rfl⟩
    subst hb0
    clear hP hZ hpin hqin
    have hPin' := hPin
    have hZin' := hZin
    obtain ⟨p1, p2, p3, p4⟩ := hPin'
    obtain ⟨z1, z2, z3, z4⟩ := hZin'
    refine W_loopB [6, 7, 8, 35, 36, 37, 38, 39, 40, 41, 42, 43, 44, 45, 46, 47, 48, 49, 50, 51, 52, 53, 54, 55, 56, 57, 58, 59, 60, 61, 62, 63, 64, 65, 66, 67, 68, 69, 70, 71, 72, 73, 74, 75, 76, 77, 78, 79, 80, 81, 82, 83, 84, 85, 86, 87, 88, 89, 90] [0, 1, 2, 3, 4, 5, 6, 7, 8, 9, 10, 11, 12, 13, 14, 15, 16, 17, 18, 19, 20, 21, 22, 23, 24, 25, 26, 27, 28, 29, 30, 31, 32, 33, 34, 35, 36, 37, 38, 39, 40, 41, 42, 43, 44, 45, 46, 47, 48, 49, 50, 51, 52, 53, 54, 55, 56, 57, 58, 59, 60, 61, 62, 63, 64, 65, 66, 67, 68, 69, 70, 71, 72, 73, 74, 75, 76, 77, 78, 79, 80, 81, 82, 83, 84, 85, 86, 87, 88, 89, 90, 91] (fun n' sl h' => ∃ (n : Nat) (p bu : SV) (c : Hp), sl = [(6, .sc (.int .i64 (P.2 + (n : Int))))] ∧ n' = (Z.2 - P.2 + 1).toNat - n ∧ n ≤ (Z.2 - P.2 + 1).toNat ∧ Bld b0 p bu (linesT v.L P Z n) c ∧ Sep R ([(b0, .cells 83 .own [p, bu])] :: c :: [(b4, .cells 58 .own [.int .i64 Z.1, .int .i64 Z.2])] :: [(b3, .cells 58 .own [.int .i64 P.1, .int .i64 P.2])] :: vwO id lv (.ptr idm 0) v :: M) h') ?_ ?_
    · refine ⟨_, _, ⟨0, .nilp, .nils, [], rfl, rfl, Nat.zero_le _, ⟨.inl rfl, AccS.nil _, fun _ => rfl⟩, ?_⟩, atI (show P.2 = P.2 + ((0 : Nat) : Int) by omega) (EnvB.of rfl)⟩
      exact hs.sublist (by simp)
    clear hs
    rintro _ _ us2 _ h4 ⟨n, p, bu, c, rfl, rfl, hn, hB, hs⟩ he
    refine W_spell he rfl ?_
    clear he
    unfold m16_l9
    by_cases hlt : n < (Z.2 - P.2 + 1).toNat
    · have hll := linesT_length ok.l hPin hZin n (by omega)
      obtain ⟨Y, hY⟩ : ∃ Y : Nat, P.2 + (n : Int) = (Y : Int) := ⟨(P.2 + (n : Int)).toNat, by omega⟩
      have hYL : Y < v.L.length := by omega
      have hYG : Y < G.length := by omega
      have hrow := hG.lns.at hYG
      have hrl := hrow.ln
      have hw := wid_at hG.map hYG
      have hwl := ok.l.wid (y := (Y : Int)) (by omega) (by omega)
      obtain ⟨F, hF⟩ : ∃ F : Nat, (F : Int) = if (Y : Int) = P.2 then P.1 else 0 := ⟨(if (Y : Int) = P.2 then P.1 else 0).toNat, by split <;> omega⟩
      obtain ⟨T, hT⟩ : ∃ T : Int, T = if (Y : Int) = Z.2 then Z.1 else wid v.L Y - 1 := ⟨_, rfl⟩
      rw [hY]
      repeat' (first
        | (refine K_ops ?_; first
          | refine W_fastB rfl ?_
          | refine W_nil ?_
          | (refine W_lenL rfl (by first | assumption | exact SlR.ln (by assumption) | exact AccS.ln (by assumption) | exact OwnS.ln (by assumption) | exact VwO.ln (by assumption) | exact OwnP.ln (by assumption) | exact Len.sl) ?_; refine W_norm rfl ?_)
          | (refine K_bin ?_; first
            | (refine W_sub rfl rfl (IntWalk.i64_in _ (by first | omega | (simp only [List.length_set, List.length_append, List.length_take, List.length_drop, List.length_replicate, List.length_cons, List.length_nil, decs_length, List.length_map]; omega))) ?_; refine W_norm rfl ?_)
          )
          | (refine K_index ?_; first
            | (refine W_indexR rfl rfl (by assumption) rfl ⟨(by first | omega | (simp only [List.length_set, List.length_append, List.length_take, List.length_drop, List.length_replicate, List.length_cons, List.length_nil, decs_length, List.length_map]; omega)), (by first | omega | (simp only [List.length_set, List.length_append, List.length_take, List.length_drop, List.length_replicate, List.length_cons, List.length_nil, decs_length, List.length_map]; omega))⟩ ?_; intro _ _ _; refine W_norm rfl ?_)
          )
          | (refine K_load ?_; first
            | (refine W_loadR hs rfl (by assumption) rfl ?_; refine W_norm rfl ?_)
            | (refine W_loadC hs 2 rfl rfl rfl ?_; refine W_norm rfl ?_)
            | (refine W_loadC hs 3 rfl rfl rfl ?_; refine W_norm rfl ?_)
            | (refine W_loadC hs 4 rfl rfl rfl ?_; refine W_norm rfl ?_)
          )
        )
        | (refine K_code ?_; first
          | (refine W_midB (a := .seq (.ops m16_r12) _) [7, 8, 41, 42, 43, 44, 45, 46, 47, 48, 49, 50, 51, 52, 53, 54, 55, 56] [0, 1, 2, 3, 4, 5, 6, 7, 8, 9, 10, 11, 12, 13, 14, 15, 16, 17, 18, 19, 20, 21, 22, 23, 24, 25, 26, 27, 28, 29, 30, 31, 32, 33, 34, 35, 36, 37, 38, 39, 40, 41, 42, 43, 44, 45, 46, 47, 48, 49, 50, 51, 52, 53, 54, 55, 56, 57, 58, 59, 60, 61, 62, 63, 64, 65, 66, 67, 68, 69, 70, 71, 72, 73, 74, 75, 76, 77, 78, 79, 80, 81, 82, 83, 84, 85, 86, 87, 88, 89, 90, 91] (fun sl h' => sl = [(7, .sc (.int .i64 (F : Int))), (8, .sc (.int .i64 (((atC G Y).length : Int) - 1)))] ∧ Sep R ([(b0, .cells 83 .own [p, bu])] :: c :: [(b4, .cells 58 .own [.int .i64 Z.1, .int .i64 Z.2])] :: [(b3, .cells 58 .own [.int .i64 P.1, .int .i64 P.2])] :: vwO id lv (.ptr idm 0) v :: M) h') ?_ ?_)
          | refine W_seq ?_
          | refine W_ops ?_
          | (refine W_cond rfl (fun hc => ?_) (fun hc => ?_) <;> (try rw [hc]) <;> (try simp only [decide_eq_true_eq, decide_eq_false_iff_not, beq_iff_eq, beq_eq_false_iff_ne, bne_iff_ne, bne_eq_false_iff_eq, Bool.not_eq_true', Bool.not_eq_false', Int.not_lt, Int.not_le, ne_eq, reduceCtorEq, not_true_eq_false, not_false_eq_true, Decidable.not_not] at hc) <;> (try (exfalso; omega)) <;> (try refine W_norm rfl ?_))
          | refine W_skip ?_
          | refine W_block ?_
          | refine W_draw rfl ?_
        )
        | refine seqK_n ?_
        | refine midK_n ?_)
      · rw [show (F : Int) = P.1 by rw [hF, if_pos hc]]
        exact ⟨_, ⟨rfl, hs⟩, EnvB.of rfl⟩
      · rw [show (F : Int) = 0 by rw [hF, if_neg hc]]
        exact ⟨_, ⟨rfl, hs⟩, EnvB.of rfl⟩
      clear hs
      rintro _ us3 _ h5 ⟨rfl, hs⟩ he
      refine W_spell he rfl ?_
      clear he
      repeat' (first
        | (refine K_ops ?_; first
          | refine W_fastB rfl ?_
          | refine W_nil ?_
          | (refine K_load ?_; first
            | (refine W_loadC hs 2 rfl rfl rfl ?_; refine W_norm rfl ?_)
          )
        )
        | (refine K_code ?_; first
          | (refine W_midB (a := .seq (.ops m16_r14) _) [8, 57, 58, 59, 60, 61, 62] [0, 1, 2, 3, 4, 5, 6, 7, 8, 9, 10, 11, 12, 13, 14, 15, 16, 17, 18, 19, 20, 21, 22, 23, 24, 25, 26, 27, 28, 29, 30, 31, 32, 33, 34, 35, 36, 37, 38, 39, 40, 41, 42, 43, 44, 45, 46, 47, 48, 49, 50, 51, 52, 53, 54, 55, 56, 57, 58, 59, 60, 61, 62, 63, 64, 65, 66, 67, 68, 69, 70, 71, 72, 73, 74, 75, 76, 77, 78, 79, 80, 81, 82, 83, 84, 85, 86, 87, 88, 89, 90, 91] (fun sl h' => sl = [(8, .sc (.int .i64 T))] ∧ Sep R ([(b0, .cells 83 .own [p, bu])] :: c :: [(b4, .cells 58 .own [.int .i64 Z.1, .int .i64 Z.2])] :: [(b3, .cells 58 .own [.int .i64 P.1, .int .i64 P.2])] :: vwO id lv (.ptr idm 0) v :: M) h') ?_ ?_)
          | refine W_seq ?_
          | refine W_ops ?_
          | (refine W_cond rfl (fun hc => ?_) (fun hc => ?_) <;> (try rw [hc]) <;> (try simp only [decide_eq_true_eq, decide_eq_false_iff_not, beq_iff_eq, beq_eq_false_iff_ne, bne_iff_ne, bne_eq_false_iff_eq, Bool.not_eq_true', Bool.not_eq_false', Int.not_lt, Int.not_le, ne_eq, reduceCtorEq, not_true_eq_false, not_false_eq_true, Decidable.not_not] at hc) <;> (try (exfalso; omega)) <;> (try refine W_norm rfl ?_))
          | refine W_skip ?_
        )
        | refine seqK_n ?_
        | refine midK_n ?_)
      · rw [show T = Z.1 by rw [hT, if_pos hc]]
        exact ⟨_, ⟨rfl, hs⟩, EnvB.of rfl⟩
      · rw [show T = ((atC G Y).length : Int) - 1 by rw [hT, if_neg hc, hw]]
        exact ⟨_, ⟨rfl, hs⟩, EnvB.of rfl⟩
      clear hs
      rintro _ us4 _ h6 ⟨rfl, hs⟩ he
      refine W_spell he rfl ?_
      clear he
      obtain ⟨S, hS⟩ : ∃ S : List UInt8, S = linesT v.L P Z n ++ (if P.2 < (Y : Int) ∧ (v.L.getD ((Y : Int) - 1).toNat ln0).joined = false then [10] else []) := ⟨_, rfl⟩
      have hll2 : (linesT v.L P Z n).length ≤ 900 * 4001 := Nat.le_trans hll (Nat.mul_le_mul_right _ (by omega))
      repeat' (first
        | (refine K_ops ?_; first
          | refine W_fastB rfl ?_
          | refine W_nil ?_
          | (refine K_guard ?_; first
            | refine W_guard_on rfl ?_
            | refine W_guard_off rfl rfl (W_norm rfl ?_)
            | (refine W_guardT rfl (fun hc => ?_) (fun hc => ?_) <;> (try rw [hc]) <;> (try simp only [decide_eq_true_eq, decide_eq_false_iff_not, beq_iff_eq, beq_eq_false_iff_ne, bne_iff_ne, bne_eq_false_iff_eq, Bool.not_eq_true', Bool.not_eq_false', Int.not_lt, Int.not_le, ne_eq, reduceCtorEq, not_true_eq_false, not_false_eq_true, Decidable.not_not] at hc) <;> (try (exfalso; omega)) <;> (try refine W_norm rfl ?_))
          )
          | (refine K_call ?_; first
            | (refine W_callsN 37 rfl (w37 hs hB (by omega)) rfl ?_; rintro _ h7 ⟨rfl, p', u', c', hb', hs⟩; refine W_norm rfl ?_)
          )
          | (refine K_bin ?_; first
            | (refine W_sub rfl rfl (IntWalk.i64_in _ (by first | omega | (simp only [List.length_set, List.length_append, List.length_take, List.length_drop, List.length_replicate, List.length_cons, List.length_nil, decs_length, List.length_map]; omega))) ?_; refine W_norm rfl ?_)
          )
          | (refine K_pick ?_; first
            | refine W_pick_t rfl rfl (W_norm rfl ?_)
            | refine W_pick_f rfl rfl (W_norm rfl ?_)
          )
          | (refine K_index ?_; first
            | (refine W_indexR rfl rfl (by assumption) rfl ⟨(by first | omega | (simp only [List.length_set, List.length_append, List.length_take, List.length_drop, List.length_replicate, List.length_cons, List.length_nil, decs_length, List.length_map]; omega)), (by first | omega | (simp only [List.length_set, List.length_append, List.length_take, List.length_drop, List.length_replicate, List.length_cons, List.length_nil, decs_length, List.length_map]; omega))⟩ ?_; intro _ _ _; refine W_norm rfl ?_)
          )
          | (refine K_load ?_; first
            | (refine W_loadRF hs rfl (by assumption) rfl ?_; refine W_norm rfl ?_)
            | (refine W_loadC hs 3 rfl rfl rfl ?_; refine W_norm rfl ?_)
            | (refine W_loadC hs 4 rfl rfl rfl ?_; refine W_norm rfl ?_)
          )
        )
        | (refine K_code ?_; first
          | (refine W_midB (a := .seq (.ops m16_r16) _) [63, 64, 65, 66, 67, 68, 69, 70, 71, 72, 73, 74, 75, 76, 77, 78, 79] [0, 1, 2, 3, 4, 5, 6, 7, 8, 9, 10, 11, 12, 13, 14, 15, 16, 17, 18, 19, 20, 21, 22, 23, 24, 25, 26, 27, 28, 29, 30, 31, 32, 33, 34, 35, 36, 37, 38, 39, 40, 41, 42, 43, 44, 45, 46, 47, 48, 49, 50, 51, 52, 53, 54, 55, 56, 57, 58, 59, 60, 61, 62, 63, 64, 65, 66, 67, 68, 69, 70, 71, 72, 73, 74, 75, 76, 77, 78, 79, 80, 81, 82, 83, 84, 85, 86, 87, 88, 89, 90, 91] (fun sl h' => ∃ (p bu : SV) (c : Hp), sl = [] ∧ Bld b0 p bu S c ∧ Sep R ([(b0, .cells 83 .own [p, bu])] :: c :: [(b4, .cells 58 .own [.int .i64 Z.1, .int .i64 Z.2])] :: [(b3, .cells 58 .own [.int .i64 P.1, .int .i64 P.2])] :: vwO id lv (.ptr idm 0) v :: M) h') ?_ ?_)
          | refine W_seq ?_
          | refine W_ops ?_
          | refine W_cond_f rfl ?_
          | (refine W_cond rfl (fun hc => ?_) (fun hc => ?_) <;> (try rw [hc]) <;> (try simp only [decide_eq_true_eq, decide_eq_false_iff_not, beq_iff_eq, beq_eq_false_iff_ne, bne_iff_ne, bne_eq_false_iff_eq, Bool.not_eq_true', Bool.not_eq_false', Int.not_lt, Int.not_le, ne_eq, reduceCtorEq, not_true_eq_false, not_false_eq_true, Decidable.not_not] at hc) <;> (try (exfalso; omega)) <;> (try refine W_norm rfl ?_))
          | refine W_skip ?_
        )
        | refine seqK_n ?_
        | refine midK_n ?_)
      · rw [show S = linesT v.L P Z n ++ [10] by rw [hS, if_pos ⟨by omega, by rw [joined_at hG.map (by omega)]; exact hc⟩]]
        exact ⟨_, ⟨_, _, _, rfl, hb', hs⟩, EnvB.of rfl⟩
      · rw [show S = linesT v.L P Z n by rw [hS, if_neg (by rintro ⟨e1, e2⟩; rw [joined_at hG.map (by omega), hc] at e2; cases e2), List.append_nil]]
        exact ⟨_, ⟨_, _, _, rfl, hB, hs⟩, EnvB.of rfl⟩
      · rw [show S = linesT v.L P Z n by rw [hS, if_neg (by rintro ⟨e1, e2⟩; omega), List.append_nil]]
        exact ⟨_, ⟨_, _, _, rfl, hB, hs⟩, EnvB.of rfl⟩
      clear hs hB
      rintro _ us5 _ h8 ⟨p, bu, c, rfl, hB, hs⟩ he
      refine W_spell he rfl ?_
      clear he
      have hSl : S.length ≤ 900 * 4001 + 1 := by
        rw [hS, List.length_append]
        split
        · simp only [List.length_cons, List.length_nil]; omega
        · simp only [List.length_nil]; omega
      have hcl := ok.l.cells (atL G Y) (by rw [← hG.map]; exact List.mem_of_getElem? (lnOf_atH hYG))
      have hcr := ok.l.runes (atL G Y) (by rw [← hG.map]; exact List.mem_of_getElem? (lnOf_atH hYG))
      have hFle : F ≤ (atC G Y).length := by
        have : (F : Int) ≤ wid v.L Y := by
          rw [hF]
          split
          · rename_i e; rw [e]; omega
          · omega
        omega
      have hTle : 0 ≤ T ∧ T < ((atC G Y).length : Int) := by
        rw [← hw, hT]
        split
        · rename_i e; rw [e]; exact ⟨z3, z4⟩
        · omega
      have hpe : partT (v.L.getD ((Y : Int)).toNat ln0) F T = partT ⟨atC G Y, (atH G Y).j, (atH G Y).s⟩ F T := by rw [Int.toNat_natCast, line_at hG.map hYG]
      have hpl := partT_length ok.l (y := (Y : Int)) (a := (F : Int)) (b := T) (by omega) (by omega) (by omega) (by omega)
      rw [hpe] at hpl
      have hrw : linesT v.L P Z (n + 1) = S ++ partT ⟨atC G Y, (atH G Y).j, (atH G Y).s⟩ F T := by
        rw [linesT_succ, hY, hS, List.append_assoc, ← hpe]
        congr 1
        unfold rowT
        rw [← hF, ← hT]
      repeat' (first
        | (refine K_ops ?_; first
          | refine W_fastB rfl ?_
          | refine W_nil ?_
          | (refine K_call ?_; first
            | (refine W_callsN 39 rfl (w39 (g := atH G Y) (C := atC G Y) (A := F) (b := T) (SlR.now hs hrow) hcl.1 hcl.2 hcr hFle hTle) rfl ?_; rintro _ h9 ⟨rfl, t⟩; replace hs := hs.call t; try simp only [cell_back, attr_back, List.set_cons_zero, List.set_cons_succ, List.eraseIdx_cons_succ, List.eraseIdx_zero, List.tail_cons, List.nil_append, List.cons_append] at hs; refine W_norm rfl ?_)
            | (refine W_callsN 38 rfl (w38 hs hB (by omega)) rfl ?_; rintro _ h9 ⟨rfl, p', u', c', hb', hs⟩; refine W_norm rfl ?_)
          )
          | (refine K_bin ?_; first
            | (refine W_add rfl rfl (IntWalk.i64_in _ (by first | omega | (simp only [List.length_set, List.length_append, List.length_take, List.length_drop, List.length_replicate, List.length_cons, List.length_nil, decs_length, List.length_map]; omega))) ?_; refine W_norm rfl ?_)
          )
          | (refine K_index ?_; first
            | (refine W_indexR rfl rfl (by assumption) rfl ⟨(by first | omega | (simp only [List.length_set, List.length_append, List.length_take, List.length_drop, List.length_replicate, List.length_cons, List.length_nil, decs_length, List.length_map]; omega)), (by first | omega | (simp only [List.length_set, List.length_append, List.length_take, List.length_drop, List.length_replicate, List.length_cons, List.length_nil, decs_length, List.length_map]; omega))⟩ ?_; intro _ _ _; refine W_norm rfl ?_)
          )
          | (refine K_load ?_; first
            | (refine W_loadRA hs rfl (by assumption) rfl ?_; refine W_norm rfl ?_)
            | (refine W_loadC hs 4 rfl rfl rfl ?_; refine W_norm rfl ?_)
          )
        )
        | (refine K_code ?_; first
          | refine W_ops ?_
        )
        | refine seqK_n ?_
        | refine blockK_n ?_
        | refine invK_n ?_)
      rw [← hrw] at hb'
      refine ⟨_, ?_, _, ⟨n + 1, p', u', c', rfl, rfl, ?_, hb', hs⟩, atI (show (Y : Int) + 1 = P.2 + ((n + 1 : Nat) : Int) by omega) (EnvB.of rfl)⟩
      · omega
      · omega
    · obtain rfl : n = (Z.2 - P.2 + 1).toNat := by omega
      have hll := linesT_length ok.l hPin hZin (Z.2 - P.2 + 1).toNat (by omega)
      have hll2 : (linesT v.L P Z (Z.2 - P.2 + 1).toNat).length ≤ 900 * 4001 := Nat.le_trans hll (Nat.mul_le_mul_right _ (by omega))
      repeat' (first
        | (refine K_ops ?_; first
          | refine W_fastB rfl ?_
          | refine W_nil ?_
          | (refine K_call ?_; first
            | (refine W_callsN 40 rfl (w40 hs hB (by omega)) rfl ?_; rintro _ h5 ⟨rfl, hs⟩; refine W_norm rfl ?_)
          )
          | (refine K_load ?_; first
            | (refine W_loadC hs 2 rfl rfl rfl ?_; refine W_norm rfl ?_)
          )
        )
        | (refine K_code ?_; first
          | refine W_seq ?_
          | refine W_ops ?_
          | (refine W_cond rfl (fun hc => ?_) (fun hc => ?_) <;> (try rw [hc]) <;> (try simp only [decide_eq_true_eq, decide_eq_false_iff_not, beq_iff_eq, beq_eq_false_iff_ne, bne_iff_ne, bne_eq_false_iff_eq, Bool.not_eq_true', Bool.not_eq_false', Int.not_lt, Int.not_le, ne_eq, reduceCtorEq, not_true_eq_false, not_false_eq_true, Decidable.not_not] at hc) <;> (try (exfalso; omega)) <;> (try refine W_norm rfl ?_))
          | refine W_ret ?_
          | refine W_exit ?_
        )
        | refine seqK_n ?_
        | refine seqK_x ?_
        | refine blockK_e ?_
        | refine invK_x ?_
        | (refine fnK_r rfl ?_; try dsimp only [gd_z, gd_s]))
      exact ⟨_, rfl, rfl, ((hs.drop 0).drop 0).drop 0⟩
end Go.Proofs.YtbkhjpclnfljbaaDoor
