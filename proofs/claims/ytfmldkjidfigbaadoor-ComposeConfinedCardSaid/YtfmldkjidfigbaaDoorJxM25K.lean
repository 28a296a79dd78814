import Derived.Test.YtfmldkjidfigbaaDoorJxM25J
import Derived.Test.YtfmldkjidfigbaaDoorJxM25H
/- Compose: the law ComposeConfined: the two loops. CLNONE -/
set_option linter.unusedSimpArgs false
set_option linter.unusedVariables false
set_option maxHeartbeats 1000000
set_option maxRecDepth 100000
namespace Go.Proofs.YtfmldkjidfigbaaDoor
open Go Go.Jx

theorem conf_crop {R : Ro} {M : List Hp} {h : Heap} {e : List AV} {bv zid i kk : Nat} {P : List PartV} {v : ViewV} {z : Rc} (he : EnvIs 175 [(3, .sc (.ptr bv 0)), (9, .sc (.int .i64 (kk : Int))), (11, .sc (.ptr zid 0)), (12, .sc (.int .i64 (i : Int)))] e)
    (hs : Sep R ([(zid, .cells 37 .own (rcE.enc z))] :: bvO bv v :: M) h) (hps : SlR partE R v.ps P) (hi : i < P.length) (hz : RcI z) (hp : RcI (P.getD (i : Int).toNat partE.dflt).r) :
    W DD (.code (.draw m5_r16) e h) (fun x e' h' => x = .normal ∧ ∃ sl, (∃ (b : Bool), sl = [(82, .sc (.bool b))] ∧ (b = false → i ≠ kk → cropR z (P.getD (i : Int).toNat partE.dflt).r = rc0) ∧ Sep R ([(zid, .cells 37 .own (rcE.enc z))] :: bvO bv v :: M) h') ∧ EnvB e [68, 69, 70, 71, 72, 73, 74, 75, 76, 77, 78, 79, 80, 81, 82] [0, 1, 2, 3, 4, 5, 6, 7, 8, 9, 10, 11, 12, 13, 14, 15, 16, 17, 18, 19, 20, 21, 22, 23, 24, 25, 26, 27, 28, 29, 30, 31, 32, 33, 34, 35, 36, 37, 38, 39, 40, 41, 42, 43, 44, 45, 46, 47, 48, 49, 50, 51, 52, 53, 54, 55, 56, 57, 58, 59, 60, 61, 62, 63, 64, 65, 66, 67, 68, 69, 70, 71, 72, 73, 74, 75, 76, 77, 78, 79, 80, 81, 82, 83, 84, 85, 86, 87, 88, 89, 90, 91, 92, 93, 94, 95, 96, 97, 98, 99, 100, 101, 102, 103, 104, 105, 106, 107, 108, 109, 110, 111, 112, 113, 114, 115, 116, 117, 118, 119, 120, 121, 122, 123, 124, 125, 126, 127, 128, 129, 130, 131, 132, 133, 134, 135, 136, 137, 138, 139, 140, 141, 142, 143, 144, 145, 146, 147, 148, 149, 150, 151, 152, 153, 154, 155, 156, 157, 158, 159, 160, 161, 162, 163, 164, 165, 166, 167, 168, 169, 170, 171, 172, 173, 174] sl e') := by
  obtain ⟨us, rfl⟩ := he.list
  rw [show mkE us [(3, .sc (.ptr bv 0)), (9, .sc (.int .i64 (kk : Int))), (11, .sc (.ptr zid 0)), (12, .sc (.int .i64 (i : Int)))] 0 175 = [us 0, us 1, us 2, .sc (.ptr bv 0), us 4, us 5, us 6, us 7, us 8, .sc (.int .i64 (kk : Int)), us 10, .sc (.ptr zid 0), .sc (.int .i64 (i : Int)), us 13, us 14, us 15, us 16, us 17, us 18, us 19, us 20, us 21, us 22, us 23, us 24, us 25, us 26, us 27, us 28, us 29, us 30, us 31, us 32, us 33, us 34, us 35, us 36, us 37, us 38, us 39, us 40, us 41, us 42, us 43, us 44, us 45, us 46, us 47, us 48, us 49, us 50, us 51, us 52, us 53, us 54, us 55, us 56, us 57, us 58, us 59, us 60, us 61, us 62, us 63, us 64, us 65, us 66, us 67, us 68, us 69, us 70, us 71, us 72, us 73, us 74, us 75, us 76, us 77, us 78, us 79, us 80, us 81, us 82, us 83, us 84, us 85, us 86, us 87, us 88, us 89, us 90, us 91, us 92, us 93, us 94, us 95, us 96, us 97, us 98, us 99, us 100, us 101, us 102, us 103, us 104, us 105, us 106, us 107, us 108, us 109, us 110, us 111, us 112, us 113, us 114, us 115, us 116, us 117, us 118, us 119, us 120, us 121, us 122, us 123, us 124, us 125, us 126, us 127, us 128, us 129, us 130, us 131, us 132, us 133, us 134, us 135, us 136, us 137, us 138, us 139, us 140, us 141, us 142, us 143, us 144, us 145, us 146, us 147, us 148, us 149, us 150, us 151, us 152, us 153, us 154, us 155, us 156, us 157, us 158, us 159, us 160, us 161, us 162, us 163, us 164, us 165, us 166, us 167, us 168, us 169, us 170, us 171, us 172, us 173, us 174] from rfl]
  have n3 := hps.ln
  repeat' (first
    | (refine K_ops ?_; first
      | refine W_fastB rfl ?_
      | refine W_nil ?_
      | (refine K_guard ?_; first
        | refine W_guard_on rfl ?_
        | refine W_guard_off rfl rfl (W_norm rfl ?_)
        | (refine W_guardT rfl (fun hc => ?_) (fun hc => ?_) <;> (try rw [hc]) <;> (try simp only [decide_eq_true_eq, decide_eq_false_iff_not, beq_iff_eq, beq_eq_false_iff_ne, bne_iff_ne, bne_eq_false_iff_eq, Bool.not_eq_true', Bool.not_eq_false', Int.not_lt, Int.not_le, ne_eq, reduceCtorEq, not_true_eq_false, not_false_eq_true, Decidable.not_not] at hc) <;> (try (exfalso; omega)) <;> (try refine W_norm rfl ?_))
      )
      | (refine K_call ?_; first
        | (refine W_callsN 13 rfl (w13 hz hp) rfl ?_; rintro _ h3 ⟨rfl, t⟩; have hs := hs.call t; try simp only [cell_back, attr_back, List.set_cons_zero, List.set_cons_succ, List.eraseIdx_cons_succ, List.eraseIdx_zero, List.tail_cons, List.nil_append, List.cons_append] at hs; refine W_norm rfl ?_)
      )
      | (refine K_bin ?_; first
        | (refine W_neE rcE rfl rfl rfl rfl rcE_fits ?_; refine W_norm rfl ?_)
      )
      | (refine K_pick ?_; first
        | refine W_pick_t rfl rfl (W_norm rfl ?_)
        | refine W_pick_f rfl rfl (W_norm rfl ?_)
      )
      | (refine K_index ?_; first
        | (refine W_indexR rfl rfl (by assumption) rfl ⟨(by first | omega | (simp only [List.length_set, List.length_append, List.length_take, List.length_drop, List.length_replicate, List.length_cons, List.length_nil, decs_length, List.length_map]; omega)), (by first | omega | (simp only [List.length_set, List.length_append, List.length_take, List.length_drop, List.length_replicate, List.length_cons, List.length_nil, decs_length, List.length_map]; omega))⟩ ?_; intro _ _ _; refine W_norm rfl ?_)
      )
      | (refine K_load ?_; first
        | (refine W_loadRP hs rfl (by assumption) rfl ?_; refine W_norm rfl ?_)
        | (refine W_loadCA hs 0 rfl rfl rfl ?_; refine W_norm rfl ?_)
        | (refine W_loadC hs 1 rfl rfl rfl ?_; refine W_norm rfl ?_)
      )
      | (refine W_buildN rfl ?_; refine W_norm rfl ?_)
    )
    | (refine K_code ?_; first
      | refine W_draws ?_
    )
    | refine W_dstep rfl ?_
    | refine ⟨rfl, fun rc hrec => ?_⟩
    | (refine W_dnilS (by simp only [List.reverse_cons, List.reverse_nil, List.nil_append, List.cons_append]; rfl) (by repeat' first | exact CL_nil _ _ | refine CL_skip rfl ?_ | refine CL_none (by assumption) rfl ?_ | refine CL_load (by assumption) rfl (by first | exact trivial | (repeat' first | exact trivial | refine ⟨⟨_, rfl, (by refine (congrArg (fun x => Heap.get x _) (RecIs.hh (by assumption))).trans ?_; first | rfl | exact PtR.same_get (by assumption) (by assumption) (by assumption) | exact Sep.same_get (by assumption) (by assumption) 0 0 rfl rfl | exact Sep.same_get (by assumption) (by assumption) 0 1 rfl rfl | exact Sep.same_get (by assumption) (by assumption) 0 2 rfl rfl | exact Sep.same_get (by assumption) (by assumption) 0 3 rfl rfl | exact Sep.same_get (by assumption) (by assumption) 1 0 rfl rfl | exact Sep.same_get (by assumption) (by assumption) 1 1 rfl rfl | exact Sep.same_get (by assumption) (by assumption) 1 2 rfl rfl | exact Sep.same_get (by assumption) (by assumption) 1 3 rfl rfl | exact Sep.same_get (by assumption) (by assumption) 2 0 rfl rfl | exact Sep.same_get (by assumption) (by assumption) 2 1 rfl rfl | exact Sep.same_get (by assumption) (by assumption) 2 2 rfl rfl | exact Sep.same_get (by assumption) (by assumption) 2 3 rfl rfl | exact Sep.same_get (by assumption) (by assumption) 3 0 rfl rfl | exact Sep.same_get (by assumption) (by assumption) 3 1 rfl rfl | exact Sep.same_get (by assumption) (by assumption) 3 2 rfl rfl | exact Sep.same_get (by assumption) (by assumption) 3 3 rfl rfl)⟩, ?_⟩)) (by first | exact trivial | (repeat' first | exact trivial | refine ⟨⟨_, rfl, (by refine (congrArg (fun x => Heap.get x _) (RecIs.hh' (by assumption))).trans ?_; first | rfl | exact PtR.same_get (by assumption) (by assumption) (by assumption) | exact Sep.same_get (by assumption) (by assumption) 0 0 rfl rfl | exact Sep.same_get (by assumption) (by assumption) 0 1 rfl rfl | exact Sep.same_get (by assumption) (by assumption) 0 2 rfl rfl | exact Sep.same_get (by assumption) (by assumption) 0 3 rfl rfl | exact Sep.same_get (by assumption) (by assumption) 1 0 rfl rfl | exact Sep.same_get (by assumption) (by assumption) 1 1 rfl rfl | exact Sep.same_get (by assumption) (by assumption) 1 2 rfl rfl | exact Sep.same_get (by assumption) (by assumption) 1 3 rfl rfl | exact Sep.same_get (by assumption) (by assumption) 2 0 rfl rfl | exact Sep.same_get (by assumption) (by assumption) 2 1 rfl rfl | exact Sep.same_get (by assumption) (by assumption) 2 2 rfl rfl | exact Sep.same_get (by assumption) (by assumption) 2 3 rfl rfl | exact Sep.same_get (by assumption) (by assumption) 3 0 rfl rfl | exact Sep.same_get (by assumption) (by assumption) 3 1 rfl rfl | exact Sep.same_get (by assumption) (by assumption) 3 2 rfl rfl | exact Sep.same_get (by assumption) (by assumption) 3 3 rfl rfl)⟩, ?_⟩)) ?_) ?_))
  all_goals first
    | exact ⟨rfl, _, ⟨_, rfl, fun _ h => absurd (by omega) h, hs⟩, EnvB.of rfl⟩
    | (refine ⟨rfl, _, ⟨_, rfl, ?_, hs⟩, EnvB.of rfl⟩
       intro h _
       exact of_decide_eq_true (by rw [Bool.not_eq_false'] at h; exact h))
end Go.Proofs.YtfmldkjidfigbaaDoor
/- Compose: the law ComposeConfined: what it does with the second matrix. CLNONE -/
set_option linter.unusedSimpArgs false
set_option linter.unusedVariables false
set_option maxHeartbeats 1000000
set_option maxRecDepth 100000
namespace Go.Proofs.YtfmldkjidfigbaaDoor
open Go Go.Jx

theorem cursL_set {Z : Rc} {cur : Bool} {x y : Int} {A C : List PartM} {p p' : PartM} (hr : p'.r = p.r) (hs : p'.s = p.s) : cursL Z cur x y (A ++ p' :: C) = cursL Z cur x y (A ++ p :: C) := by
  have e : ∀ c, cursR Z cur x y c p' = cursR Z cur x y c p := fun c => by unfold cursR; rw [hr, hs]
  unfold cursL
  rw [List.foldl_append, List.foldl_append, List.foldl_cons, List.foldl_cons, e]
theorem split_at {P : List PartV} {k : Nat} (h : k < P.length) : P = P.take k ++ P.getD k part0 :: P.drop (k + 1) := by
  rw [List.getD_eq_getElem?_getD, List.getElem?_eq_getElem h]
  simp
theorem split_set {P : List PartV} {k : Nat} {q : PartV} (h : k < P.length) : P.set k q = P.take k ++ q :: P.drop (k + 1) := by
  rw [List.set_eq_take_append_cons_drop, if_pos h]
/-- What the law says, of the parts as they are read. -/
theorem confined_at {v : ViewV} {P : List PartV} {B : List Rc} {ln : Lns} {R : Ro} {kk : Nat} {q : PartV} (hok : OkV v) (hv : ViewOk R ln v P B) (hkk : kk < P.length) (hr : q.r = (P.getD kk part0).r) (hsh : q.s = (P.getD kk part0).s)
    (hc : ∀ j, j < P.length → j ≠ kk → cropR (P.getD kk part0).r (P.getD j part0).r = rc0) {i : Nat} (hi : i < (cellsC v (P.map (pmOf ln)) B).length)
    (h : (P.getD kk part0).s = false ∨ inR (P.getD kk part0).r ((i % v.w.toNat : Nat) : Int) ((i / v.w.toNat : Nat) : Int) = false) : (cellsC v (P.map (pmOf ln)) B).getD i cell0 = (cellsC v ((P.set kk q).map (pmOf ln)) B).getD i cell0 := by
  have hpr : ∀ p ∈ P, RcI p.r := fun p hp => (hv.p p hp).1
  have e1 : P.map (pmOf ln) = (P.take kk).map (pmOf ln) ++ pmOf ln (P.getD kk part0) :: (P.drop (kk + 1)).map (pmOf ln) := by
    conv => lhs; rw [split_at hkk]
    rw [List.map_append, List.map_cons]
  have e2 : (P.set kk q).map (pmOf ln) = (P.take kk).map (pmOf ln) ++ pmOf ln q :: (P.drop (kk + 1)).map (pmOf ln) := by
    rw [split_set hkk, List.map_append, List.map_cons]
  rw [e1] at hi ⊢
  rw [e2]
  refine confined_law (p := pmOf ln (P.getD kk part0)) (p' := pmOf ln q) hr hsh hok ?_ (hpr _ (getD_mem hkk)) ?_ hv.b hi h
  · intro m hm
    obtain ⟨x, hx, rfl⟩ := List.mem_map.1 hm
    exact hpr x (List.mem_of_mem_take hx)
  · intro m hm
    obtain ⟨x, hx, rfl⟩ := List.mem_map.1 hm
    refine ⟨hpr x (List.mem_of_mem_drop hx), ?_⟩
    obtain ⟨j, hj, rfl⟩ := List.getElem_of_mem hx
    rw [List.length_drop] at hj
    rw [List.getElem_drop]
    have := hc (kk + 1 + j) (by omega) (by omega)
    have e : P.getD (kk + 1 + j) part0 = P[kk + 1 + j] := by rw [List.getD_eq_getElem?_getD, List.getElem?_eq_getElem (by omega)]; rfl
    rw [e] at this
    exact this
theorem conf_tail {R : Ro} {h : Heap} {e : List AV} {bv wid zid mid kk : Nat} {P : List PartV} {B : List Rc} {v : ViewV} {up u1 : SV} {q : PartV} {ln : Lns} (hb : HasR R) (hv : ViewOk R ln v P B) (hv2 : ViewOk R ln { v with ps := up } (P.set kk q) B) (hok : OkV v) (hkk : kk < P.length) (hr : q.r = (P.getD kk part0).r) (hsh : q.s = (P.getD kk part0).s)
    (hc : ∀ j, j < P.length → j ≠ kk → cropR (P.getD kk part0).r (P.getD j part0).r = rc0)
    (hs : Sep R ([(zid, .cells 37 .own (rcE.enc (P.getD kk part0).r))] :: bvO wid { v with ps := up } :: maO mid v.w v.h u1 (cursL (pgZ v) v.cur v.x v.y (P.map (pmOf ln))) :: bvO bv v :: []) h) (l1 : SlR cellE R u1 (cellsC v (P.map (pmOf ln)) B))
    (he : EnvIs 175 [(3, .sc (.ptr bv 0)), (7, .sc (.ptr mid 0)), (9, i64 kk), (10, .sc (.ptr wid 0)), (11, .sc (.ptr zid 0))] e) :
    W DD (.code (.seq (.ops m5_r19) (.seq (.seq (.ops m5_r20) (.cond (.t 134) (.seq (.ops m5_r21) .ret) .skip)) (.seq (.seq (.ops m5_r22) (.block 2 (.loop m5_l23))) (.seq (.ops m5_r28) .ret)))) e h) (fun x e' h' => x = .ret ∧ EnvIs 175 [(6, bo true)] e') := by
  obtain ⟨us, rfl⟩ := he.list
  have hok0 := hok
  obtain ⟨ok1, ok2, ok3, ok4⟩ := hok0
  have hpr : ∀ p ∈ P.map (pmOf ln), RcI p.r := fun m hm => by
    obtain ⟨x, hx, rfl⟩ := List.mem_map.1 hm
    exact (hv.p x hx).1
  have hpr2 : ∀ p ∈ (P.set kk q).map (pmOf ln), RcI p.r := fun m hm => by
    obtain ⟨x, hx, rfl⟩ := List.mem_map.1 hm
    exact (hv2.p x hx).1
  have hlen1 := cells_len hok hpr hv.b
  have hlen2 : (cellsC { v with ps := up } ((P.set kk q).map (pmOf ln)) B).length = v.w.toNat * v.h.toNat := cells_len (v := v) hok hpr2 hv.b
  have hwh1 := fun y hy => cells_whole hok hpr hv.b y hy
  have hwh2 : ∀ y : Nat, y < v.h.toNat → wholeB (((cellsC { v with ps := up } ((P.set kk q).map (pmOf ln)) B).take ((y + 1) * v.w.toNat)).drop (y * v.w.toNat)) = true := fun y hy => cells_whole (v := v) hok hpr2 hv.b y hy
  have hcu : cursL (pgZ { v with ps := up }) v.cur v.x v.y ((P.set kk q).map (pmOf ln)) = cursL (pgZ v) v.cur v.x v.y (P.map (pmOf ln)) := by
    have e1 : P.map (pmOf ln) = (P.take kk).map (pmOf ln) ++ pmOf ln (P.getD kk part0) :: (P.drop (kk + 1)).map (pmOf ln) := by
      conv => lhs; rw [split_at hkk]
      rw [List.map_append, List.map_cons]
    rw [e1, split_set hkk, List.map_append, List.map_cons]
    exact cursL_set hr hsh
  have hlaw := fun {i : Nat} => confined_at (q := q) (i := i) hok hv hkk hr hsh hc
  have hz : RcI (P.getD kk part0).r := (hv.p _ (getD_mem hkk)).1
  generalize hze : (P.getD kk part0).r = z at *
  have hzi : (zid, AO.cells 37 .own (rcE.enc z)) = (zid, AO.cells 37 .own (rcE.enc z)) := rfl
  repeat' (first
    | (refine K_ops ?_; first
      | refine W_fastB rfl ?_
      | refine W_nil ?_
      | (refine K_call ?_; first
        | (refine W_callsN 8 rfl (compose_ok (v := { v with ps := up }) hs hb hv2 hok) rfl ?_; rintro _ h2 ⟨u2, c2, rfl, ha2, hs⟩; refine W_norm rfl ?_)
      )
      | (refine K_load ?_; first
        | (refine W_loadCA hs 1 rfl rfl rfl ?_; refine W_norm rfl ?_)
      )
      | (refine K_store ?_; first
        | (refine W_storeC hs 0 rfl rfl rfl rfl (by first | decide | assumption) rfl rfl ?_; clear hs; intro _ hs; try simp only [cell_back, attr_back, List.set_cons_zero, List.set_cons_succ, List.eraseIdx_cons_succ, List.eraseIdx_zero, List.tail_cons, List.nil_append, List.cons_append] at hs; refine W_norm rfl ?_)
      )
      | (refine W_allocS hs ?_; clear hs; intro al _ hs; try simp only [cell_back, attr_back, List.set_cons_zero, List.set_cons_succ, List.eraseIdx_cons_succ, List.eraseIdx_zero, List.tail_cons, List.nil_append, List.cons_append] at hs; refine W_norm rfl ?_)
    )
    | (refine K_code ?_; first
      | (refine (Hold.out (p := W DD (.code (.seq (.seq (.ops m5_r20) _) _) _ _) _) ?_))
      | refine W_seq ?_
      | refine W_ops ?_
    )
    | refine seqK_n ?_)
  refine ⟨?_⟩
  obtain ⟨nid, rfl⟩ : ∃ b, b = al := ⟨_, rfl⟩
  have l2 : SlR cellE (R.add c2) u2 (cellsC { v with ps := up } ((P.set kk q).map (pmOf ln)) B) := ha2.1.inR fun x hx => .inr hx
  have l1' : SlR cellE (R.add c2) u1 (cellsC v (P.map (pmOf ln)) B) := l1.mono fun id o k => .inl k
  have hv9 : ViewOk (R.add c2) ln v P B := hv.mono fun id o k => .inl k
  clear hv hv2 l1 ha2
  have hps := hv9.ps
  have hpl := hps.ln
  have n1 := l1'.ln
  have n2 := l2.ln
  have hN : (cellsC v (P.map (pmOf ln)) B).length ≤ 160000 := by
    rw [hlen1]; exact Nat.le_trans (Nat.mul_le_mul (show v.w.toNat ≤ 400 by omega) (show v.h.toNat ≤ 400 by omega)) (by decide)
  replace hs := hs.freeze 1 rfl
  rw [hcu] at hs
  replace hs : Sep (R.add c2) (maO nid v.w v.h u2 (cursL (pgZ v) v.cur v.x v.y (P.map (pmOf ln))) :: [(zid, .cells 37 .own (rcE.enc z))] :: bvO wid { v with ps := up } :: maO mid v.w v.h u1 (cursL (pgZ v) v.cur v.x v.y (P.map (pmOf ln))) :: bvO bv v :: []) _ := hs
  replace hs : Sep (R.add c2) (maO nid v.w v.h u2 (cursL (pgZ v) v.cur v.x v.y (P.map (pmOf ln))) :: [(zid, .cells 37 .own (rcE.enc z))] :: maO mid v.w v.h u1 (cursL (pgZ v) v.cur v.x v.y (P.map (pmOf ln))) :: bvO bv v :: bvO wid { v with ps := up } :: []) _ := hs.reord (fun a => by simp only [List.flatten_cons, List.flatten_nil, List.count_append, List.count_nil, hpOf_append, hpOf_cons, hpOf_nil, List.append_nil, List.eraseIdx_cons_succ, List.eraseIdx_zero, List.tail_cons] <;> omega)
  clear hcu
  generalize cursL (pgZ v) v.cur v.x v.y (P.map (pmOf ln)) = cu at *
  repeat' (first
    | (refine K_ops ?_; first
      | refine W_fastB rfl ?_
      | refine W_nil ?_
      | (refine K_guard ?_; first
        | refine W_guard_on rfl ?_
        | (refine W_guardF rfl (fun hc => ?_) (fun hc => ?_) <;> (try rw [hc]) <;> (try simp only [decide_eq_true_eq, decide_eq_false_iff_not, beq_iff_eq, beq_eq_false_iff_ne, bne_iff_ne, bne_eq_false_iff_eq, Bool.not_eq_true', Bool.not_eq_false', Int.not_lt, Int.not_le, ne_eq, reduceCtorEq, not_true_eq_false, not_false_eq_true, Decidable.not_not] at hc) <;> (try (exfalso; omega)) <;> (try refine W_norm rfl ?_))
      )
      | (refine K_call ?_; first
        | (refine W_callsN 14 rfl (w14 (SlR.now hs l1') ⟨ok1, ok2⟩ ⟨ok3, ok4⟩ hlen1 hwh1) rfl ?_; rintro _ h4 ⟨rfl, t⟩; replace hs := hs.call t; try simp only [cell_back, attr_back, List.set_cons_zero, List.set_cons_succ, List.eraseIdx_cons_succ, List.eraseIdx_zero, List.tail_cons, List.nil_append, List.cons_append] at hs; refine W_norm rfl ?_)
        | (refine W_callsN 14 rfl (w14 (SlR.now hs l2) ⟨ok1, ok2⟩ ⟨ok3, ok4⟩ hlen2 hwh2) rfl ?_; rintro _ h5 ⟨rfl, t⟩; replace hs := hs.call t; try simp only [cell_back, attr_back, List.set_cons_zero, List.set_cons_succ, List.eraseIdx_cons_succ, List.eraseIdx_zero, List.tail_cons, List.nil_append, List.cons_append] at hs; refine W_norm rfl ?_)
      )
      | (refine K_pick ?_; first
        | refine W_pick_f rfl rfl (W_norm rfl ?_)
      )
      | (refine K_load ?_; first
        | (refine W_loadC hs 0 rfl rfl rfl ?_; refine W_norm rfl ?_)
        | (refine W_loadCA hs 0 rfl rfl rfl ?_; refine W_norm rfl ?_)
        | (refine W_loadC hs 2 rfl rfl rfl ?_; refine W_norm rfl ?_)
        | (refine W_loadCA hs 2 rfl rfl rfl ?_; refine W_norm rfl ?_)
      )
    )
    | (refine K_code ?_; first
      | (refine (Hold.out (p := W DD (.code (.seq (.seq (.ops m5_r22) _) _) _ _) _) ?_))
      | refine W_seq ?_
      | refine W_ops ?_
      | (refine W_cond rfl (fun hc => ?_) (fun hc => ?_) <;> (try rw [hc]) <;> (try simp only [decide_eq_true_eq, decide_eq_false_iff_not, beq_iff_eq, beq_eq_false_iff_ne, bne_iff_ne, bne_eq_false_iff_eq, Bool.not_eq_true', Bool.not_eq_false', Int.not_lt, Int.not_le, ne_eq, reduceCtorEq, not_true_eq_false, not_false_eq_true, Decidable.not_not] at hc) <;> (try (exfalso; omega)) <;> (try refine W_norm rfl ?_))
      | refine W_skip ?_
    )
    | refine seqK_n ?_)
  refine ⟨?_⟩
  repeat' (first
    | (refine K_ops ?_; first
      | refine W_fastB rfl ?_
      | refine W_nil ?_
    )
    | (refine K_code ?_; first
      | refine W_seq ?_
      | refine W_ops ?_
      | refine W_block ?_
    )
    | refine seqK_n ?_)
  refine W_loopB [6, 15, 135, 136, 137, 138, 139, 140, 141, 142, 143, 144, 145, 146, 147, 148, 149, 150, 151, 152, 153, 154, 155, 156, 157, 158, 159, 160, 161, 162, 163, 164, 165, 166, 167, 168, 169, 170, 171, 172, 173, 174] [0, 1, 2, 3, 4, 5, 6, 7, 8, 9, 10, 11, 12, 13, 14, 15, 16, 17, 18, 19, 20, 21, 22, 23, 24, 25, 26, 27, 28, 29, 30, 31, 32, 33, 34, 35, 36, 37, 38, 39, 40, 41, 42, 43, 44, 45, 46, 47, 48, 49, 50, 51, 52, 53, 54, 55, 56, 57, 58, 59, 60, 61, 62, 63, 64, 65, 66, 67, 68, 69, 70, 71, 72, 73, 74, 75, 76, 77, 78, 79, 80, 81, 82, 83, 84, 85, 86, 87, 88, 89, 90, 91, 92, 93, 94, 95, 96, 97, 98, 99, 100, 101, 102, 103, 104, 105, 106, 107, 108, 109, 110, 111, 112, 113, 114, 115, 116, 117, 118, 119, 120, 121, 122, 123, 124, 125, 126, 127, 128, 129, 130, 131, 132, 133, 134, 135, 136, 137, 138, 139, 140, 141, 142, 143, 144, 145, 146, 147, 148, 149, 150, 151, 152, 153, 154, 155, 156, 157, 158, 159, 160, 161, 162, 163, 164, 165, 166, 167, 168, 169, 170, 171, 172, 173, 174] (fun n' sl h' => ∃ (k : Nat), sl = [(15, .sc (.int .i64 (k : Int)))] ∧ n' = (cellsC v (P.map (pmOf ln)) B).length - k ∧ k ≤ (cellsC v (P.map (pmOf ln)) B).length ∧ Sep (R.add c2) (maO nid v.w v.h u2 cu :: [(zid, .cells 37 .own (rcE.enc z))] :: maO mid v.w v.h u1 cu :: bvO bv v :: bvO wid { v with ps := up } :: []) h') ?_ ?_
  · refine ⟨_, _, ⟨0, rfl, rfl, by omega, hs⟩, EnvB.of rfl⟩
  clear hs
  rintro _ _ us _ h7 ⟨k, rfl, rfl, hk, hs⟩ he
  refine W_spell he rfl ?_
  clear he
  unfold m5_l23
  by_cases hlt : k < (cellsC v (P.map (pmOf ln)) B).length
  · have hlk := @hlaw k hlt
    have ex : (k : Int) % v.w = ((k % v.w.toNat : Nat) : Int) := by
      rw [Int.natCast_emod, Int.toNat_of_nonneg (by omega)]
    have ey : (k : Int) / v.w = ((k / v.w.toNat : Nat) : Int) := by
      rw [Int.natCast_ediv, Int.toNat_of_nonneg (by omega)]
    rw [← ex, ← ey] at hlk
    repeat' (first
      | (refine K_ops ?_; first
        | refine W_fastB rfl ?_
        | refine W_nil ?_
        | (refine W_lenL rfl (by first | assumption | exact SlR.ln (by assumption) | exact AccS.ln (by assumption) | exact OwnS.ln (by assumption) | exact VwO.ln (by assumption) | exact OwnP.ln (by assumption) | exact Len.sl) ?_; refine W_norm rfl ?_)
        | (refine K_load ?_; first
          | (refine W_loadC hs 2 rfl rfl rfl ?_; refine W_norm rfl ?_)
        )
      )
      | (refine K_code ?_; first
        | (refine (Hold.out (p := W DD (.code (.seq (.draw m5_r25) _) _ _) _) ?_))
        | refine W_seq ?_
        | refine W_ops ?_
        | (refine W_cond rfl (fun hc => ?_) (fun hc => ?_) <;> (try rw [hc]) <;> (try simp only [decide_eq_true_eq, decide_eq_false_iff_not, beq_iff_eq, beq_eq_false_iff_ne, bne_iff_ne, bne_eq_false_iff_eq, Bool.not_eq_true', Bool.not_eq_false', Int.not_lt, Int.not_le, ne_eq, reduceCtorEq, not_true_eq_false, not_false_eq_true, Decidable.not_not] at hc) <;> (try (exfalso; omega)) <;> (try refine W_norm rfl ?_))
        | refine W_skip ?_
        | refine W_block ?_
      )
      | refine seqK_n ?_)
    refine ⟨?_⟩
    refine W_midB (a := .draw m5_r25) [142, 143, 144, 145, 146, 147, 148, 149, 150, 151, 152, 153, 154, 155, 156, 157, 158, 159, 160, 161, 162, 163, 164, 165, 166, 167, 168, 169, 170, 171, 172, 173, 174] [0, 1, 2, 3, 4, 5, 6, 7, 8, 9, 10, 11, 12, 13, 14, 15, 16, 17, 18, 19, 20, 21, 22, 23, 24, 25, 26, 27, 28, 29, 30, 31, 32, 33, 34, 35, 36, 37, 38, 39, 40, 41, 42, 43, 44, 45, 46, 47, 48, 49, 50, 51, 52, 53, 54, 55, 56, 57, 58, 59, 60, 61, 62, 63, 64, 65, 66, 67, 68, 69, 70, 71, 72, 73, 74, 75, 76, 77, 78, 79, 80, 81, 82, 83, 84, 85, 86, 87, 88, 89, 90, 91, 92, 93, 94, 95, 96, 97, 98, 99, 100, 101, 102, 103, 104, 105, 106, 107, 108, 109, 110, 111, 112, 113, 114, 115, 116, 117, 118, 119, 120, 121, 122, 123, 124, 125, 126, 127, 128, 129, 130, 131, 132, 133, 134, 135, 136, 137, 138, 139, 140, 141, 142, 143, 144, 145, 146, 147, 148, 149, 150, 151, 152, 153, 154, 155, 156, 157, 158, 159, 160, 161, 162, 163, 164, 165, 166, 167, 168, 169, 170, 171, 172, 173, 174] (fun sl h' => sl = [(174, .sc (.bool false))] ∧ Sep (R.add c2) (maO nid v.w v.h u2 cu :: [(zid, .cells 37 .own (rcE.enc z))] :: maO mid v.w v.h u1 cu :: bvO bv v :: bvO wid { v with ps := up } :: []) h') ?_ ?_
    · refine (conf_cmp (kk := kk) (k := k) ⟨rfl, rfl, rfl, rfl, rfl, rfl, rfl, trivial⟩ hs l1' l2 hlt (by rw [hlen2, ← hlen1]; exact hlt) hN ⟨ok1, ok2⟩ hps hkk hz hlk).mono ?_
      rintro _ e8 h9 ⟨rfl, sl, ⟨rfl, hs⟩, hE⟩
      refine midK_n ?_
      exact ⟨_, ⟨rfl, hs⟩, hE⟩
    clear hs
    rintro _ us _ h9 ⟨rfl, hs⟩ he
    refine W_spell he rfl ?_
    clear he
    repeat' (first
      | (refine K_ops ?_; first
        | refine W_fastB rfl ?_
        | refine W_nil ?_
        | (refine K_bin ?_; first
          | (refine W_add rfl rfl (IntWalk.i64_in _ (by first | omega | (simp only [List.length_set, List.length_append, List.length_take, List.length_drop, List.length_replicate, List.length_cons, List.length_nil, decs_length, List.length_map]; omega))) ?_; refine W_norm rfl ?_)
        )
      )
      | (refine K_code ?_; first
        | refine W_ops ?_
        | refine W_cond_f rfl ?_
        | refine W_skip ?_
      )
      | refine seqK_n ?_
      | refine blockK_n ?_
      | refine invK_n ?_)
    refine ⟨_, ?_, _, ⟨k + 1, rfl, rfl, ?_, hs⟩, EnvB.of rfl⟩ <;> omega
  · repeat' (first
      | (refine K_ops ?_; first
        | refine W_fastB rfl ?_
        | refine W_nil ?_
        | (refine W_lenL rfl (by first | assumption | exact SlR.ln (by assumption) | exact AccS.ln (by assumption) | exact OwnS.ln (by assumption) | exact VwO.ln (by assumption) | exact OwnP.ln (by assumption) | exact Len.sl) ?_; refine W_norm rfl ?_)
        | (refine K_load ?_; first
          | (refine W_loadC hs 2 rfl rfl rfl ?_; refine W_norm rfl ?_)
        )
      )
      | (refine K_code ?_; first
        | refine W_seq ?_
        | refine W_ops ?_
        | (refine W_cond rfl (fun hc => ?_) (fun hc => ?_) <;> (try rw [hc]) <;> (try simp only [decide_eq_true_eq, decide_eq_false_iff_not, beq_iff_eq, beq_eq_false_iff_ne, bne_iff_ne, bne_eq_false_iff_eq, Bool.not_eq_true', Bool.not_eq_false', Int.not_lt, Int.not_le, ne_eq, reduceCtorEq, not_true_eq_false, not_false_eq_true, Decidable.not_not] at hc) <;> (try (exfalso; omega)) <;> (try refine W_norm rfl ?_))
        | refine W_ret ?_
        | refine W_exit ?_
      )
      | refine seqK_n ?_
      | refine seqK_x ?_
      | refine blockK_e ?_
      | refine invK_x ?_)
    exact ⟨rfl, rfl, rfl, trivial⟩
end Go.Proofs.YtfmldkjidfigbaaDoor
