/- Views: what stands where, and the small calls. -/
import Derived.Test.YtbkhjpclnfljbaaDoorJxE23
import Derived.Test.YtbkhjpclnfljbaaDoorJxW23lns
import Derived.Test.YtbkhjpclnfljbaaDoorJxW23view2
set_option linter.unusedSimpArgs false
set_option linter.unusedVariables false
set_option maxHeartbeats 1000000
set_option maxRecDepth 100000
namespace Go.Proofs.YtbkhjpclnfljbaaDoor
open Go Go.Jx

def MkR (R : Ro) (mk : SV) (m : Option (Int × Int)) : Prop := (m = none ∧ mk = .nilp) ∨ ∃ a b id t kd, m = some (a, b) ∧ mk = .ptr id 0 ∧ R id (.cells t kd [.int .i64 a, .int .i64 b])
theorem MkR.mono {R R' : Ro} {mk : SV} {m : Option (Int × Int)} (l : R.le R') (p : MkR R mk m) : MkR R' mk m := by
  rcases p with p | ⟨a, b, id, t, kd, h1, h2, h3⟩
  · exact .inl p
  · exact .inr ⟨a, b, id, t, kd, h1, h2, l _ _ h3⟩
/-- A view's object. -/
abbrev vwO (id : Nat) (lv mk : SV) (v : Vw) : Hp := [(id, .cells 61 .own [lv, .int .i64 v.h, .int .i64 v.top, .int .i64 v.x, .int .i64 v.y, mk])]
/-- A view, as it lies. -/
structure VwR (R : Ro) (lv mk : SV) (v : Vw) (G : List LnC) : Prop where
  lns : LnsR R lv G
  map : G.map lnOf = v.L
  mr : MkR R mk v.m
theorem VwR.mono {R R' : Ro} {lv mk : SV} {v : Vw} {G : List LnC} (l : R.le R') (p : VwR R lv mk v G) : VwR R' lv mk v G := ⟨p.lns.mono l, p.map, p.mr.mono l⟩
theorem VwR.len {R : Ro} {lv mk : SV} {v : Vw} {G : List LnC} (p : VwR R lv mk v G) : G.length = v.L.length := by rw [← p.map, List.length_map]
theorem VwR.ln {R : Ro} {lv mk : SV} {v : Vw} {G : List LnC} (p : VwR R lv mk v G) : Len lv v.L.length := by have := p.lns.ln; rwa [p.len] at this

theorem w33 {R : Ro} {M : List Hp} {h : Heap} {id : Nat} {lv mk : SV} {v : Vw} (hs : Sep R (vwO id lv mk v :: M) h) (hl : Len lv v.L.length) (ok : 1 ≤ v.L.length) :
    Wc DD 33 [.sc (.ptr id 0)] h fun w h' => w = bo false ∧ h' = h := by
  refine W_enter d33 ?_
  show W _ (.code m33_code [.sc (.ptr id 0), undefA, undefA, undefA, undefA, undefA, undefA, undefA, undefA, undefA, undefA, undefA, undefA] _) _
  unfold m33_code
  repeat' (first
    | (refine K_ops ?_; first
      | refine W_fastB rfl ?_
      | refine W_nil ?_
      | (refine K_guard ?_; first
        | refine W_guard_on rfl ?_
      )
      | (refine W_lenL rfl (by first | assumption | exact SlR.ln (by assumption) | exact AccS.ln (by assumption) | exact OwnS.ln (by assumption) | exact VwO.ln (by assumption) | exact OwnP.ln (by assumption) | exact Len.sl) ?_; refine W_norm rfl ?_)
      | (refine K_bin ?_; first
        | (refine W_nil_ptr_f rfl rfl rfl ?_; refine W_norm rfl ?_)
      )
      | (refine K_pick ?_; first
        | refine W_pick_f rfl rfl (W_norm rfl ?_)
      )
      | (refine K_load ?_; first
        | (refine W_loadC hs 0 rfl rfl rfl ?_; refine W_norm rfl ?_)
      )
    )
    | (refine K_code ?_; first
      | refine W_seq ?_
      | refine W_ops ?_
      | refine W_ret ?_
    )
    | refine seqK_n ?_
    | (refine fnK_r rfl ?_; try dsimp only [gd_z, gd_s]))
  exact ⟨_, rfl, by rw [show ((v.L.length : Int) == 0) = false by rw [beq_eq_false_iff_ne]; omega], rfl⟩
theorem w34 (n lo hi : Int) (h : Heap) : Wc DD 34 [i64 n, i64 lo, i64 hi] h fun w h' => w = i64 (near n lo hi) ∧ h' = h := by
  have hs := Sep.entry h
  refine W_enter d34 ?_
  show W _ (.code m34_code [i64 n, i64 lo, i64 hi, undefA, undefA, undefA, undefA, undefA, undefA, undefA, undefA, undefA] _) _
  unfold m34_code
  repeat' (first
    | (refine K_ops ?_; first
      | refine W_fastB rfl ?_
      | refine W_nil ?_
      | (refine W_min2 rfl rfl ?_; refine W_norm rfl ?_)
      | (refine W_max2 rfl rfl ?_; refine W_norm rfl ?_)
    )
    | (refine K_code ?_; first
      | refine W_seq ?_
      | refine W_ops ?_
      | refine W_ret ?_
    )
    | refine seqK_n ?_
    | (refine fnK_r rfl ?_; try dsimp only [gd_z, gd_s]))
  exact ⟨_, rfl, rfl, rfl⟩
theorem w14 {R : Ro} {M : List Hp} {h : Heap} {id : Nat} {lv mk : SV} {v : Vw} (hs : Sep R (vwO id lv mk v :: M) h) (hl : Len lv v.L.length) (ok : 1 ≤ v.L.length) :
    Wc DD 14 [.sc (.ptr id 0)] h fun w h' => w = .tup [i64 v.x, i64 v.y] ∧ h' = h := by
  refine W_enter d14 ?_
  show W _ (.code m14_code [.sc (.ptr id 0), undefA, undefA, undefA, undefA, undefA, undefA, undefA, undefA, undefA, undefA, undefA, undefA, undefA, undefA, undefA] _) _
  unfold m14_code
  repeat' (first
    | (refine K_ops ?_; first
      | refine W_fastB rfl ?_
      | refine W_nil ?_
      | (refine K_call ?_; first
        | (refine W_callsN 33 rfl (w33 hs hl ok) rfl ?_; rintro _ h ⟨rfl, rfl⟩; refine W_norm rfl ?_)
      )
      | (refine K_load ?_; first
        | (refine W_loadC hs 0 rfl rfl rfl ?_; refine W_norm rfl ?_)
      )
    )
    | (refine K_code ?_; first
      | refine W_seq ?_
      | refine W_ops ?_
      | refine W_cond_f rfl ?_
      | refine W_skip ?_
      | refine W_ret ?_
      | refine W_draw rfl ?_
    )
    | refine seqK_n ?_
    | (refine fnK_r rfl ?_; try dsimp only [gd_z, gd_s]))
  exact ⟨_, rfl, rfl, rfl⟩
theorem w20 {R : Ro} {M : List Hp} {h : Heap} {id : Nat} {lv mk : SV} {v : Vw} (hs : Sep R (vwO id lv mk v :: M) h) (hl : Len lv v.L.length) (ok : 1 ≤ v.L.length) :
    Wc DD 20 [.sc (.ptr id 0)] h fun w h' => w = i64 v.top ∧ h' = h := by
  refine W_enter d20 ?_
  show W _ (.code m20_code [.sc (.ptr id 0), undefA, undefA, undefA, undefA, undefA, undefA, undefA, undefA] _) _
  unfold m20_code
  repeat' (first
    | (refine K_ops ?_; first
      | refine W_fastB rfl ?_
      | refine W_nil ?_
      | (refine K_call ?_; first
        | (refine W_callsN 33 rfl (w33 hs hl ok) rfl ?_; rintro _ h ⟨rfl, rfl⟩; refine W_norm rfl ?_)
      )
      | (refine K_load ?_; first
        | (refine W_loadC hs 0 rfl rfl rfl ?_; refine W_norm rfl ?_)
      )
    )
    | (refine K_code ?_; first
      | refine W_seq ?_
      | refine W_ops ?_
      | refine W_cond_f rfl ?_
      | refine W_skip ?_
      | refine W_ret ?_
    )
    | refine seqK_n ?_
    | (refine fnK_r rfl ?_; try dsimp only [gd_z, gd_s]))
  exact ⟨_, rfl, rfl, rfl⟩
theorem w17 {R : Ro} {M : List Hp} {h : Heap} {id : Nat} {lv mk : SV} {v : Vw} (hs : Sep R (vwO id lv mk v :: M) h) :
    Wc DD 17 [.sc (.ptr id 0)] h fun w h' => w = .tup [] ∧ Sep R (vwO id lv .nilp (clearV v) :: M) h' := by
  refine W_enter d17 ?_
  show W _ (.code m17_code [.sc (.ptr id 0), undefA, undefA, undefA, undefA, undefA, undefA] _) _
  unfold m17_code
  repeat' (first
    | (refine K_ops ?_; first
      | refine W_fastB rfl ?_
      | refine W_nil ?_
      | (refine W_bin (v := bo true) rfl rfl rfl ?_; refine W_norm rfl ?_)
      | (refine K_store ?_; first
        | (refine W_storeC hs 0 rfl rfl rfl rfl (by first | decide | assumption) rfl rfl ?_; clear hs; intro _ hs; try simp only [cell_back, attr_back, List.set_cons_zero, List.set_cons_succ, List.eraseIdx_cons_succ, List.eraseIdx_zero, List.tail_cons, List.nil_append, List.cons_append] at hs; refine W_norm rfl ?_)
      )
    )
    | (refine K_code ?_; first
      | refine W_seq ?_
      | refine W_ops ?_
      | refine W_cond_t rfl ?_
    )
    | refine seqK_n ?_
    | (refine fnK_n rfl ?_; try dsimp only [gd_z, gd_s]))
  exact ⟨_, rfl, rfl, hs⟩
theorem w15 {R : Ro} {M : List Hp} {h : Heap} {id : Nat} {lv mk : SV} {v : Vw} (hs : Sep R (vwO id lv mk v :: M) h) (hl : Len lv v.L.length) (ok : 1 ≤ v.L.length) :
    Wc DD 15 [.sc (.ptr id 0)] h fun w h' => w = .tup [] ∧ ∃ idm c, Sep R ([(idm, .cells c .own [.int .i64 v.x, .int .i64 v.y])] :: vwO id lv (.ptr idm 0) (markV v) :: M) h' := by
  refine W_enter d15 ?_
  show W _ (.code m15_code [.sc (.ptr id 0), undefA, undefA, undefA, undefA, undefA, undefA, undefA, undefA, undefA, undefA, undefA, undefA] _) _
  unfold m15_code
  repeat' (first
    | (refine K_ops ?_; first
      | refine W_fastB rfl ?_
      | refine W_nil ?_
      | (refine K_call ?_; first
        | (refine W_callsN 33 rfl (w33 hs hl ok) rfl ?_; rintro _ h ⟨rfl, rfl⟩; refine W_norm rfl ?_)
      )
      | (refine K_load ?_; first
        | (refine W_loadCA hs 0 rfl rfl rfl ?_; refine W_norm rfl ?_)
      )
      | (refine K_store ?_; first
        | (refine W_storeC hs 0 rfl rfl rfl rfl (by first | decide | assumption) rfl rfl ?_; clear hs; intro _ hs; try simp only [cell_back, attr_back, List.set_cons_zero, List.set_cons_succ, List.eraseIdx_cons_succ, List.eraseIdx_zero, List.tail_cons, List.nil_append, List.cons_append] at hs; refine W_norm rfl ?_)
        | (refine W_storeC hs 1 rfl rfl rfl rfl (by first | decide | assumption) rfl rfl ?_; clear hs; intro _ hs; try simp only [cell_back, attr_back, List.set_cons_zero, List.set_cons_succ, List.eraseIdx_cons_succ, List.eraseIdx_zero, List.tail_cons, List.nil_append, List.cons_append] at hs; refine W_norm rfl ?_)
      )
      | (refine W_allocS hs ?_; clear hs; intro al _ hs; try simp only [cell_back, attr_back, List.set_cons_zero, List.set_cons_succ, List.eraseIdx_cons_succ, List.eraseIdx_zero, List.tail_cons, List.nil_append, List.cons_append] at hs; refine W_norm rfl ?_)
    )
    | (refine K_code ?_; first
      | refine W_seq ?_
      | refine W_ops ?_
      | refine W_cond_t rfl ?_
    )
    | refine seqK_n ?_
    | (refine fnK_n rfl ?_; try dsimp only [gd_z, gd_s]))
  exact ⟨_, rfl, rfl, _, _, hs⟩
theorem w27 {R : Ro} {M : List Hp} {h : Heap} {id : Nat} {lv mk : SV} {v : Vw} (hs : Sep R (vwO id lv mk v :: M) h) (hl : Len lv v.L.length) (ok : 1 ≤ v.L.length) (hm : MkR R mk v.m) :
    Wc DD 27 [.sc (.ptr id 0)] h fun w h' => w = .tup [i64 (v.m.getD (0, 0)).1, i64 (v.m.getD (0, 0)).2, bo v.m.isSome] ∧ h' = h := by
  rcases hm with ⟨hm, rfl⟩ | ⟨a, b, idm, t, kd, hm, rfl, hR⟩
  · rw [hm]
    refine W_enter d27 ?_
    show W _ (.code m27_code [.sc (.ptr id 0), undefA, undefA, undefA, undefA, undefA, undefA, undefA, undefA, undefA, undefA, undefA, undefA, undefA, undefA, undefA, undefA, undefA, undefA, undefA, undefA, undefA, undefA, undefA, undefA, undefA, undefA, undefA] _) _
    unfold m27_code
    repeat' (first
      | (refine K_ops ?_; first
        | refine W_fastB rfl ?_
        | refine W_nil ?_
        | (refine K_guard ?_; first
          | refine W_guard_on rfl ?_
        )
        | (refine K_call ?_; first
          | (refine W_callsN 33 rfl (w33 hs hl ok) rfl ?_; rintro _ h ⟨rfl, rfl⟩; refine W_norm rfl ?_)
        )
        | (refine K_bin ?_; first
          | (refine W_nil_ptr_t rfl rfl rfl ?_; refine W_norm rfl ?_)
        )
        | (refine K_pick ?_; first
          | refine W_pick_f rfl rfl (W_norm rfl ?_)
        )
        | (refine K_load ?_; first
          | (refine W_loadC hs 0 rfl rfl rfl ?_; refine W_norm rfl ?_)
        )
      )
      | (refine K_code ?_; first
        | refine W_seq ?_
        | refine W_ops ?_
        | refine W_cond_t rfl ?_
        | refine W_ret ?_
      )
      | refine seqK_n ?_
      | refine seqK_r ?_
      | (refine fnK_r rfl ?_; try dsimp only [gd_z, gd_s]))
    exact ⟨_, rfl, rfl, rfl⟩
  · rw [hm]
    have hg : h.get idm = _ := hs.ro _ _ hR
    refine W_enter d27 ?_
    show W _ (.code m27_code [.sc (.ptr id 0), undefA, undefA, undefA, undefA, undefA, undefA, undefA, undefA, undefA, undefA, undefA, undefA, undefA, undefA, undefA, undefA, undefA, undefA, undefA, undefA, undefA, undefA, undefA, undefA, undefA, undefA, undefA] _) _
    unfold m27_code
    repeat' (first
      | (refine K_ops ?_; first
        | refine W_fastB rfl ?_
        | refine W_nil ?_
        | (refine W_load_sc rfl hg rfl ?_; refine W_norm rfl ?_)
        | (refine K_guard ?_; first
          | refine W_guard_on rfl ?_
        )
        | (refine K_call ?_; first
          | (refine W_callsN 33 rfl (w33 hs hl ok) rfl ?_; rintro _ h ⟨rfl, rfl⟩; refine W_norm rfl ?_)
        )
        | (refine K_bin ?_; first
          | (refine W_nil_ptr_f rfl rfl rfl ?_; refine W_norm rfl ?_)
        )
        | (refine K_pick ?_; first
          | refine W_pick_f rfl rfl (W_norm rfl ?_)
        )
        | (refine K_load ?_; first
          | (refine W_loadC hs 0 rfl rfl rfl ?_; refine W_norm rfl ?_)
        )
      )
      | (refine K_code ?_; first
        | refine W_seq ?_
        | refine W_ops ?_
        | refine W_cond_f rfl ?_
        | refine W_skip ?_
        | refine W_ret ?_
        | refine W_draw rfl ?_
      )
      | refine seqK_n ?_
      | (refine fnK_r rfl ?_; try dsimp only [gd_z, gd_s]))
    exact ⟨_, rfl, rfl, rfl⟩
end Go.Proofs.YtbkhjpclnfljbaaDoor
