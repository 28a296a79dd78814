/- Views: the cursor goes. CLNONE -/
import Derived.Test.YtbkhjpclnfljbaaDoorJxW23a
set_option linter.unusedSimpArgs false
set_option linter.unusedVariables false
set_option maxHeartbeats 1000000
set_option maxRecDepth 100000
namespace Go.Proofs.YtbkhjpclnfljbaaDoor
open Go Go.Jx

theorem wid_at {L : List Ln} {G : List LnC} (hm : G.map lnOf = L) {Y : Nat} (hY : Y < G.length) : wid L (Y : Int) = ((atC G Y).length : Int) := by
  subst hm
  unfold wid
  rw [Int.toNat_natCast, List.getD_eq_getElem?_getD, lnOf_atH hY]; rfl
theorem w12 {R : Ro} {M : List Hp} {h : Heap} {id : Nat} {lv mk : SV} {v : Vw} {G : List LnC} {x y : Int} (hs : Sep R (vwO id lv mk v :: M) h) (hG : VwR R lv mk v G) (ok : OkV v) (hx : -9223372036854775808 ≤ x ∧ x ≤ 9223372036854775807) (hy : -9223372036854775808 ≤ y ∧ y ≤ 9223372036854775807) :
    Wc DD 12 [.sc (.ptr id 0), i64 x, i64 y] h fun w h' => w = .tup [] ∧ Sep R (vwO id lv mk (toV v x y) :: M) h' := by
  have hl := hG.ln
  have hlen := hG.len
  have ok1 := ok.l.len
  have ok2 := ok.l.big
  have hn := near_in (n := y) (lo := 0) (hi := (v.L.length : Int) - 1) (by omega)
  obtain ⟨Y, hY⟩ : ∃ Y : Nat, near y 0 ((v.L.length : Int) - 1) = (Y : Int) := ⟨(near y 0 ((v.L.length : Int) - 1)).toNat, by omega⟩
  have hYl : Y < G.length := by omega
  have hw := wid_at hG.map hYl
  have hwl := ok.l.wid (y := (Y : Int)) (by omega) (by omega)
  have hrow := hG.lns.at hYl
  have hrl := hrow.ln
  have hln := hG.lns.1
  have e : toV v x y = { v with y := (Y : Int), x := near x 0 (((atC G Y).length : Int) - 1), top := near v.top ((Y : Int) - v.h + 1) (Y : Int) } := by
    unfold toV; rw [hY, hw]
  rw [e]
  have ht := ok.t0
  have ht2 := ok.t1
  have hh := ok.l.h1
  have hh2 := ok.l.h2
  refine W_enter d12 ?_
  show W _ (.code m12_code [.sc (.ptr id 0), i64 x, i64 y, undefA, undefA, undefA, undefA, undefA, undefA, undefA, undefA, undefA, undefA, undefA, undefA, undefA, undefA, undefA, undefA, undefA, undefA, undefA, undefA, undefA, undefA, undefA, undefA, undefA, undefA, undefA, undefA, undefA, undefA, undefA, undefA, undefA, undefA, undefA, undefA, undefA, undefA, undefA, undefA, undefA, undefA, undefA, undefA, undefA, undefA, undefA, undefA, undefA, undefA, undefA, undefA, undefA, undefA, undefA, undefA, undefA, undefA, undefA, undefA, undefA] _) _
  unfold m12_code
  repeat' (first
    | (refine K_ops ?_; first
      | refine W_fastB rfl ?_
      | refine W_nil ?_
      | (refine K_call ?_; first
        | (refine W_callsN 33 rfl (w33 hs hl ok1) rfl ?_; rintro _ h ⟨rfl, rfl⟩; refine W_norm rfl ?_)
        | (refine W_callsN 34 rfl (w34 _ _ _ _) rfl ?_; rintro _ h ⟨rfl, rfl⟩; (try rw [hY]); refine W_norm rfl ?_)
      )
      | (refine W_lenL rfl (by first | assumption | exact SlR.ln (by assumption) | exact AccS.ln (by assumption) | exact OwnS.ln (by assumption) | exact VwO.ln (by assumption) | exact OwnP.ln (by assumption) | exact Len.sl) ?_; refine W_norm rfl ?_)
      | (refine K_bin ?_; first
        | (refine W_add rfl rfl (IntWalk.i64_in _ (by first | omega | (simp only [List.length_set, List.length_append, List.length_take, List.length_drop, List.length_replicate, List.length_cons, List.length_nil, decs_length, List.length_map]; omega))) ?_; refine W_norm rfl ?_)
        | (refine W_sub rfl rfl (IntWalk.i64_in _ (by first | omega | (simp only [List.length_set, List.length_append, List.length_take, List.length_drop, List.length_replicate, List.length_cons, List.length_nil, decs_length, List.length_map]; omega))) ?_; refine W_norm rfl ?_)
      )
      | (refine K_index ?_; first
        | (refine W_indexR rfl rfl (by assumption) rfl ⟨(by first | omega | (simp only [List.length_set, List.length_append, List.length_take, List.length_drop, List.length_replicate, List.length_cons, List.length_nil, decs_length, List.length_map]; omega)), (by first | omega | (simp only [List.length_set, List.length_append, List.length_take, List.length_drop, List.length_replicate, List.length_cons, List.length_nil, decs_length, List.length_map]; omega))⟩ ?_; intro _ _ _; refine W_norm rfl ?_)
      )
      | (refine K_load ?_; first
        | (refine W_loadR hs rfl (by assumption) rfl ?_; refine W_norm rfl ?_)
        | (refine W_loadC hs 0 rfl rfl rfl ?_; refine W_norm rfl ?_)
      )
      | (refine K_store ?_; first
        | (refine W_storeC hs 0 rfl rfl rfl rfl (by first | decide | assumption) rfl rfl ?_; clear hs; intro _ hs; try simp only [cell_back, attr_back, List.set_cons_zero, List.set_cons_succ, List.eraseIdx_cons_succ, List.eraseIdx_zero, List.tail_cons, List.nil_append, List.cons_append] at hs; refine W_norm rfl ?_)
      )
    )
    | (refine K_code ?_; first
      | refine W_seq ?_
      | refine W_ops ?_
      | refine W_cond_f rfl ?_
      | refine W_skip ?_
      | refine W_draw rfl ?_
    )
    | refine seqK_n ?_
    | (refine fnK_n rfl ?_; try dsimp only [gd_z, gd_s]))
  exact ⟨_, rfl, rfl, hs⟩
theorem w19 {R : Ro} {M : List Hp} {h : Heap} {id : Nat} {lv mk : SV} {v : Vw} {G : List LnC} {x y : Int} (hs : Sep R (vwO id lv mk v :: M) h) (hG : VwR R lv mk v G) (ok : OkV v) :
    Wc DD 19 [.sc (.ptr id 0), i64 x, i64 y] h fun w h' => w = .tup [] ∧ Sep R (vwO id lv mk (moveV v x y) :: M) h' := by
  have hl := hG.ln
  have ok1 := ok.l.len
  have ok2 := ok.l.big
  have hx := near_in (n := x) (lo := -1000) (hi := 1000) (by omega)
  have hy := near_in (n := y) (lo := -1000) (hi := 1000) (by omega)
  have b1 := ok.x0
  have b2 := ok.x1
  have b3 := ok.y0
  have b4 := ok.y1
  have b5 := (ok.l.wid ok.y0 ok.y1).2
  refine W_enter d19 ?_
  show W _ (.code m19_code [.sc (.ptr id 0), i64 x, i64 y, undefA, undefA, undefA, undefA, undefA, undefA, undefA, undefA, undefA, undefA, undefA, undefA, undefA, undefA, undefA, undefA, undefA, undefA, undefA, undefA, undefA, undefA, undefA, undefA] _) _
  unfold m19_code
  repeat' (first
    | (refine K_ops ?_; first
      | refine W_fastB rfl ?_
      | refine W_nil ?_
      | (refine K_call ?_; first
        | (refine W_callsN 33 rfl (w33 hs hl ok1) rfl ?_; rintro _ h ⟨rfl, rfl⟩; refine W_norm rfl ?_)
      )
    )
    | (refine K_code ?_; first
      | refine W_seq ?_
      | refine W_ops ?_
      | refine W_cond_t rfl ?_
    )
    | refine seqK_n ?_)
  repeat' (first
    | (refine K_ops ?_; first
      | refine W_fastB rfl ?_
      | refine W_nil ?_
      | (refine K_call ?_; first
        | (refine W_callsN 34 rfl (w34 _ _ _ _) rfl ?_; rintro _ h ⟨rfl, rfl⟩; refine W_norm rfl ?_)
        | (refine W_callsN 12 rfl (w12 hs hG ok (by omega) (by omega)) rfl ?_; rintro _ h2 ⟨rfl, hs⟩; refine W_norm rfl ?_)
      )
      | (refine K_bin ?_; first
        | (refine W_add rfl rfl (IntWalk.i64_in _ (by first | omega | (simp only [List.length_set, List.length_append, List.length_take, List.length_drop, List.length_replicate, List.length_cons, List.length_nil, decs_length, List.length_map]; omega))) ?_; refine W_norm rfl ?_)
      )
      | (refine K_load ?_; first
        | (refine W_loadC hs 0 rfl rfl rfl ?_; refine W_norm rfl ?_)
      )
    )
    | (refine K_code ?_; first
      | refine W_draws ?_
    )
    | refine W_dstep rfl ?_
    | refine ⟨rfl, fun rc hrec => ?_⟩
    | (refine W_dnilS (by simp only [List.reverse_cons, List.reverse_nil, List.nil_append, List.cons_append]; rfl) (by repeat' first | exact CL_nil _ _ | refine CL_skip rfl ?_ | refine CL_none (by assumption) rfl ?_ | refine CL_load (by assumption) rfl (by first | exact trivial | (repeat' first | exact trivial | refine ⟨⟨_, rfl, (by refine (congrArg (fun x => Heap.get x _) (RecIs.hh (by assumption))).trans ?_; first | rfl | exact PtR.same_get (by assumption) (by assumption) (by assumption) | exact Sep.same_get (by assumption) (by assumption) 0 0 rfl rfl | exact Sep.same_get (by assumption) (by assumption) 0 1 rfl rfl | exact Sep.same_get (by assumption) (by assumption) 0 2 rfl rfl | exact Sep.same_get (by assumption) (by assumption) 0 3 rfl rfl | exact Sep.same_get (by assumption) (by assumption) 1 0 rfl rfl | exact Sep.same_get (by assumption) (by assumption) 1 1 rfl rfl | exact Sep.same_get (by assumption) (by assumption) 1 2 rfl rfl | exact Sep.same_get (by assumption) (by assumption) 1 3 rfl rfl | exact Sep.same_get (by assumption) (by assumption) 2 0 rfl rfl | exact Sep.same_get (by assumption) (by assumption) 2 1 rfl rfl | exact Sep.same_get (by assumption) (by assumption) 2 2 rfl rfl | exact Sep.same_get (by assumption) (by assumption) 2 3 rfl rfl | exact Sep.same_get (by assumption) (by assumption) 3 0 rfl rfl | exact Sep.same_get (by assumption) (by assumption) 3 1 rfl rfl | exact Sep.same_get (by assumption) (by assumption) 3 2 rfl rfl | exact Sep.same_get (by assumption) (by assumption) 3 3 rfl rfl)⟩, ?_⟩)) (by first | exact trivial | (repeat' first | exact trivial | refine ⟨⟨_, rfl, (by refine (congrArg (fun x => Heap.get x _) (RecIs.hh' (by assumption))).trans ?_; first | rfl | exact PtR.same_get (by assumption) (by assumption) (by assumption) | exact Sep.same_get (by assumption) (by assumption) 0 0 rfl rfl | exact Sep.same_get (by assumption) (by assumption) 0 1 rfl rfl | exact Sep.same_get (by assumption) (by assumption) 0 2 rfl rfl | exact Sep.same_get (by assumption) (by assumption) 0 3 rfl rfl | exact Sep.same_get (by assumption) (by assumption) 1 0 rfl rfl | exact Sep.same_get (by assumption) (by assumption) 1 1 rfl rfl | exact Sep.same_get (by assumption) (by assumption) 1 2 rfl rfl | exact Sep.same_get (by assumption) (by assumption) 1 3 rfl rfl | exact Sep.same_get (by assumption) (by assumption) 2 0 rfl rfl | exact Sep.same_get (by assumption) (by assumption) 2 1 rfl rfl | exact Sep.same_get (by assumption) (by assumption) 2 2 rfl rfl | exact Sep.same_get (by assumption) (by assumption) 2 3 rfl rfl | exact Sep.same_get (by assumption) (by assumption) 3 0 rfl rfl | exact Sep.same_get (by assumption) (by assumption) 3 1 rfl rfl | exact Sep.same_get (by assumption) (by assumption) 3 2 rfl rfl | exact Sep.same_get (by assumption) (by assumption) 3 3 rfl rfl)⟩, ?_⟩)) ?_) ?_)
    | (refine fnK_n rfl ?_; try dsimp only [gd_z, gd_s]))
  exact ⟨_, rfl, rfl, hs⟩
end Go.Proofs.YtbkhjpclnfljbaaDoor
