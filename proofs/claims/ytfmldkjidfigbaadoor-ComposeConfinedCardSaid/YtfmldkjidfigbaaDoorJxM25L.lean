import Derived.Test.YtfmldkjidfigbaaDoorJxM25K
import Derived.Test.YtfmldkjidfigbaaDoorJxM25I
/- Compose: the law ComposeConfined. -/
set_option linter.unusedSimpArgs false
set_option linter.unusedVariables false
set_option maxHeartbeats 1000000
set_option maxRecDepth 100000
namespace Go.Proofs.YtfmldkjidfigbaaDoor
open Go Go.Jx

theorem conf_no {v : ViewV} {P : List PartV} {B : List Rc} {ln : Lns} {h : Heap} {a : Int} {ls : SV} (hb : HasR (Now h)) (hv : ViewOk (Now h) ln v P B) (hok : ¬ OkV v) : Wc DD 5 [.agg (viewL v), .sc (.int .u8 a), .sc ls] h fun r h' => r = bo true := by
  have hs := Sep.entry h
  have hpl := hv.ps.ln
  refine W_enter d5 ?_
  show W _ (.code m5_code [.agg (viewL v), .sc (.int .u8 a), .sc ls, undefA, undefA, undefA, undefA, undefA, undefA, undefA, undefA, undefA, undefA, undefA, undefA, undefA, undefA, undefA, undefA, undefA, undefA, undefA, undefA, undefA, undefA, undefA, undefA, undefA, undefA, undefA, undefA, undefA, undefA, undefA, undefA, undefA, undefA, undefA, undefA, undefA, undefA, undefA, undefA, undefA, undefA, undefA, undefA, undefA, undefA, undefA, undefA, undefA, undefA, undefA, undefA, undefA, undefA, undefA, undefA, undefA, undefA, undefA, undefA, undefA, undefA, undefA, undefA, undefA, undefA, undefA, undefA, undefA, undefA, undefA, undefA, undefA, undefA, undefA, undefA, undefA, undefA, undefA, undefA, undefA, undefA, undefA, undefA, undefA, undefA, undefA, undefA, undefA, undefA, undefA, undefA, undefA, undefA, undefA, undefA, undefA, undefA, undefA, undefA, undefA, undefA, undefA, undefA, undefA, undefA, undefA, undefA, undefA, undefA, undefA, undefA, undefA, undefA, undefA, undefA, undefA, undefA, undefA, undefA, undefA, undefA, undefA, undefA, undefA, undefA, undefA, undefA, undefA, undefA, undefA, undefA, undefA, undefA, undefA, undefA, undefA, undefA, undefA, undefA, undefA, undefA, undefA, undefA, undefA, undefA, undefA, undefA, undefA, undefA, undefA, undefA, undefA, undefA, undefA, undefA, undefA, undefA, undefA, undefA, undefA, undefA, undefA, undefA, undefA, undefA, undefA, undefA, undefA, undefA, undefA, undefA] _) _
  unfold m5_code
  repeat' (first
    | (refine K_ops ?_; first
      | refine W_fastB rfl ?_
      | refine W_nil ?_
      | (refine K_guard ?_; first
        | refine W_guard_on rfl ?_
        | refine W_guard_off rfl rfl (W_norm rfl ?_)
        | (refine W_guardF rfl (fun hc => ?_) (fun hc => ?_) <;> (try rw [hc]) <;> (try simp only [decide_eq_true_eq, decide_eq_false_iff_not, beq_iff_eq, beq_eq_false_iff_ne, bne_iff_ne, bne_eq_false_iff_eq, Bool.not_eq_true', Bool.not_eq_false', Int.not_lt, Int.not_le, ne_eq, reduceCtorEq, not_true_eq_false, not_false_eq_true, Decidable.not_not] at hc) <;> (try (exfalso; omega)) <;> (try refine W_norm rfl ?_))
      )
      | (refine K_call ?_; first
        | (refine W_callsN 9 rfl (w9 _) rfl ?_; rintro _ h1 ⟨rfl, rfl⟩; refine W_norm rfl ?_)
        | (refine W_callsN 8 rfl (compose_no hs hb hv hok) rfl ?_; rintro _ h2 ⟨rfl, hs⟩; refine W_norm rfl ?_)
        | (refine W_callsN 12 rfl (w12 (hv.mono hs.le)) rfl ?_; rintro _ h3 ⟨b, rfl, t⟩; replace hs := hs.call t; try simp only [cell_back, attr_back, List.set_cons_zero, List.set_cons_succ, List.eraseIdx_cons_succ, List.eraseIdx_zero, List.tail_cons, List.nil_append, List.cons_append] at hs; refine W_norm rfl ?_)
      )
      | (refine W_lenL rfl (by first | assumption | exact SlR.ln (by assumption) | exact AccS.ln (by assumption) | exact OwnS.ln (by assumption) | exact VwO.ln (by assumption) | exact OwnP.ln (by assumption) | exact Len.sl) ?_; refine W_norm rfl ?_)
      | (refine K_pick ?_; first
        | refine W_pick_t rfl rfl (W_norm rfl ?_)
        | refine W_pick_f rfl rfl (W_norm rfl ?_)
      )
      | (refine K_load ?_; first
        | (refine W_loadCA hs 0 rfl rfl rfl ?_; refine W_norm rfl ?_)
        | (refine W_loadC hs 1 rfl rfl rfl ?_; refine W_norm rfl ?_)
        | (refine W_loadCA hs 1 rfl rfl rfl ?_; refine W_norm rfl ?_)
      )
      | (refine K_store ?_; first
        | (refine W_storeC hs 0 rfl rfl rfl rfl (by first | decide | assumption) rfl rfl ?_; clear hs; intro _ hs; try simp only [cell_back, attr_back, List.set_cons_zero, List.set_cons_succ, List.eraseIdx_cons_succ, List.eraseIdx_zero, List.tail_cons, List.nil_append, List.cons_append] at hs; refine W_norm rfl ?_)
      )
      | (refine W_allocS hs ?_; clear hs; intro al _ hs; try simp only [cell_back, attr_back, List.set_cons_zero, List.set_cons_succ, List.eraseIdx_cons_succ, List.eraseIdx_zero, List.tail_cons, List.nil_append, List.cons_append] at hs; refine W_norm rfl ?_)
      | (refine W_boxS hs rfl rfl ?_; clear hs; intro bx _ hs; try simp only [cell_back, attr_back, List.set_cons_zero, List.set_cons_succ, List.eraseIdx_cons_succ, List.eraseIdx_zero, List.tail_cons, List.nil_append, List.cons_append] at hs; refine W_norm rfl ?_)
    )
    | (refine K_code ?_; first
      | refine W_seq ?_
      | refine W_ops ?_
      | refine W_cond_t rfl ?_
      | refine W_cond_f rfl ?_
      | refine W_skip ?_
      | refine W_ret ?_
    )
    | refine seqK_n ?_
    | refine seqK_r ?_
    | (refine fnK_r rfl ?_; try dsimp only [gd_z, gd_s]))
  all_goals exact ⟨_, rfl, rfl⟩
theorem conf_yes {v : ViewV} {P : List PartV} {B : List Rc} {ln : Lns} {h : Heap} {a : Int} {ls : SV} (hb : HasR (Now h)) (hv : ViewOk (Now h) ln v P B) (hnp : P.length * 64 ≤ 140737488351232) (ha : 0 ≤ a ∧ a ≤ 255)
    (hl : NsR cellE (Now h) ls (ln ls) ∧ (ln ls).length ≤ 10000000000000 ∧ ∀ g ∈ ln ls, g.2.length ≤ 10000000000000) (hok : OkV v) : Wc DD 5 [.agg (viewL v), .sc (.int .u8 a), .sc ls] h fun r h' => r = bo true := by
  have hs := Sep.entry h
  have hpl := hv.ps.ln
  have hps := hv.ps
  have hnp0 := hv.np
  refine W_enter d5 ?_
  show W _ (.code m5_code [.agg (viewL v), .sc (.int .u8 a), .sc ls, undefA, undefA, undefA, undefA, undefA, undefA, undefA, undefA, undefA, undefA, undefA, undefA, undefA, undefA, undefA, undefA, undefA, undefA, undefA, undefA, undefA, undefA, undefA, undefA, undefA, undefA, undefA, undefA, undefA, undefA, undefA, undefA, undefA, undefA, undefA, undefA, undefA, undefA, undefA, undefA, undefA, undefA, undefA, undefA, undefA, undefA, undefA, undefA, undefA, undefA, undefA, undefA, undefA, undefA, undefA, undefA, undefA, undefA, undefA, undefA, undefA, undefA, undefA, undefA, undefA, undefA, undefA, undefA, undefA, undefA, undefA, undefA, undefA, undefA, undefA, undefA, undefA, undefA, undefA, undefA, undefA, undefA, undefA, undefA, undefA, undefA, undefA, undefA, undefA, undefA, undefA, undefA, undefA, undefA, undefA, undefA, undefA, undefA, undefA, undefA, undefA, undefA, undefA, undefA, undefA, undefA, undefA, undefA, undefA, undefA, undefA, undefA, undefA, undefA, undefA, undefA, undefA, undefA, undefA, undefA, undefA, undefA, undefA, undefA, undefA, undefA, undefA, undefA, undefA, undefA, undefA, undefA, undefA, undefA, undefA, undefA, undefA, undefA, undefA, undefA, undefA, undefA, undefA, undefA, undefA, undefA, undefA, undefA, undefA, undefA, undefA, undefA, undefA, undefA, undefA, undefA, undefA, undefA, undefA, undefA, undefA, undefA, undefA, undefA, undefA, undefA, undefA, undefA, undefA, undefA, undefA, undefA] _) _
  unfold m5_code
  repeat' (first
    | (refine K_ops ?_; first
      | refine W_fastB rfl ?_
      | refine W_nil ?_
      | (refine K_guard ?_; first
        | refine W_guard_on rfl ?_
        | refine W_guard_off rfl rfl (W_norm rfl ?_)
        | (refine W_guardF rfl (fun hc => ?_) (fun hc => ?_) <;> (try rw [hc]) <;> (try simp only [decide_eq_true_eq, decide_eq_false_iff_not, beq_iff_eq, beq_eq_false_iff_ne, bne_iff_ne, bne_eq_false_iff_eq, Bool.not_eq_true', Bool.not_eq_false', Int.not_lt, Int.not_le, ne_eq, reduceCtorEq, not_true_eq_false, not_false_eq_true, Decidable.not_not] at hc) <;> (try (exfalso; omega)) <;> (try refine W_norm rfl ?_))
      )
      | (refine K_call ?_; first
        | (refine W_callsN 9 rfl (w9 _) rfl ?_; rintro _ h1 ⟨rfl, rfl⟩; refine W_norm rfl ?_)
        | (refine W_callsN 8 rfl (compose_ok hs hb hv hok) rfl ?_; rintro _ h2 ⟨u1, c1, rfl, ha1, hs⟩; refine W_norm rfl ?_)
        | (refine W_callsN 12 rfl (w12 (hv.mono hs.le)) rfl ?_; rintro _ h3 ⟨b, rfl, t⟩; replace hs := hs.call t; try simp only [cell_back, attr_back, List.set_cons_zero, List.set_cons_succ, List.eraseIdx_cons_succ, List.eraseIdx_zero, List.tail_cons, List.nil_append, List.cons_append] at hs; refine W_norm rfl ?_)
      )
      | (refine W_lenL rfl (by first | assumption | exact SlR.ln (by assumption) | exact AccS.ln (by assumption) | exact OwnS.ln (by assumption) | exact VwO.ln (by assumption) | exact OwnP.ln (by assumption) | exact Len.sl) ?_; refine W_norm rfl ?_)
      | (refine K_pick ?_; first
        | refine W_pick_t rfl rfl (W_norm rfl ?_)
        | refine W_pick_f rfl rfl (W_norm rfl ?_)
      )
      | (refine K_load ?_; first
        | (refine W_loadCA hs 0 rfl rfl rfl ?_; refine W_norm rfl ?_)
        | (refine W_loadC hs 2 rfl rfl rfl ?_; refine W_norm rfl ?_)
        | (refine W_loadCA hs 2 rfl rfl rfl ?_; refine W_norm rfl ?_)
      )
      | (refine K_store ?_; first
        | (refine W_storeC hs 0 rfl rfl rfl rfl (by first | decide | assumption) rfl rfl ?_; clear hs; intro _ hs; try simp only [cell_back, attr_back, List.set_cons_zero, List.set_cons_succ, List.eraseIdx_cons_succ, List.eraseIdx_zero, List.tail_cons, List.nil_append, List.cons_append] at hs; refine W_norm rfl ?_)
      )
      | (refine W_allocS hs ?_; clear hs; intro al _ hs; try simp only [cell_back, attr_back, List.set_cons_zero, List.set_cons_succ, List.eraseIdx_cons_succ, List.eraseIdx_zero, List.tail_cons, List.nil_append, List.cons_append] at hs; refine W_norm rfl ?_)
      | (refine W_boxS hs rfl rfl ?_; clear hs; intro bx _ hs; try simp only [cell_back, attr_back, List.set_cons_zero, List.set_cons_succ, List.eraseIdx_cons_succ, List.eraseIdx_zero, List.tail_cons, List.nil_append, List.cons_append] at hs; refine W_norm rfl ?_)
    )
    | (refine K_code ?_; first
      | (refine (Hold.out (p := W DD (.code (.seq (.ops m5_r6) _) _ _) _) ?_))
      | refine W_seq ?_
      | refine W_ops ?_
      | refine W_cond_t rfl ?_
      | refine W_cond_f rfl ?_
      | refine W_skip ?_
      | refine W_ret ?_
    )
    | refine seqK_n ?_
    | refine seqK_r ?_
    | (refine fnK_r rfl ?_; try dsimp only [gd_z, gd_s]))
  all_goals first
    | exact ⟨_, rfl, rfl⟩
    | skip
  refine ⟨?_⟩
  obtain ⟨mid, rfl⟩ : ∃ b, b = al := ⟨_, rfl⟩
  have hne : 0 < P.length := by omega
  repeat' (first
    | (refine K_ops ?_; first
      | refine W_fastB rfl ?_
      | refine W_nil ?_
      | (refine W_lenL rfl (by first | assumption | exact SlR.ln (by assumption) | exact AccS.ln (by assumption) | exact OwnS.ln (by assumption) | exact VwO.ln (by assumption) | exact OwnP.ln (by assumption) | exact Len.sl) ?_; refine W_norm rfl ?_)
      | (refine K_bin ?_; first
        | (refine W_mod rfl rfl (by omega) ?_; refine W_norm rfl ?_)
      )
      | (refine K_load ?_; first
        | (refine W_loadC hs 2 rfl rfl rfl ?_; refine W_norm rfl ?_)
      )
      | (refine W_convint rfl (IntWalk.i64_in _ (by omega)) ?_; refine W_norm rfl ?_)
    )
    | (refine K_code ?_; first
      | (refine (Hold.out (p := W DD (.code (.seq (.ops m5_r7) _) _ _) _) ?_))
      | refine W_seq ?_
      | refine W_ops ?_
    )
    | refine seqK_n ?_)
  refine ⟨?_⟩
  obtain ⟨kk, hkk⟩ : ∃ k : Nat, a % (P.length : Int) = (k : Int) := ⟨(a % (P.length : Int)).toNat, by rw [Int.toNat_of_nonneg (Int.emod_nonneg _ (by omega))]⟩
  have hkl : kk < P.length := by
    have := Int.emod_lt_of_pos a (show (0 : Int) < P.length by omega)
    omega
  rw [hkk]
  repeat' (first
    | (refine K_ops ?_; first
      | refine W_nil ?_
      | (refine K_load ?_; first
        | (refine W_loadCA hs 2 rfl rfl rfl ?_; refine W_norm rfl ?_)
      )
      | (refine K_store ?_; first
        | (refine W_storeC hs 0 rfl rfl rfl rfl (by first | decide | assumption) rfl rfl ?_; clear hs; intro _ hs; try simp only [cell_back, attr_back, List.set_cons_zero, List.set_cons_succ, List.eraseIdx_cons_succ, List.eraseIdx_zero, List.tail_cons, List.nil_append, List.cons_append] at hs; refine W_norm rfl ?_)
      )
      | (refine W_allocS hs ?_; clear hs; intro al _ hs; try simp only [cell_back, attr_back, List.set_cons_zero, List.set_cons_succ, List.eraseIdx_cons_succ, List.eraseIdx_zero, List.tail_cons, List.nil_append, List.cons_append] at hs; refine W_norm rfl ?_)
    )
    | (refine K_code ?_; first
      | refine W_seq ?_
      | refine W_ops ?_
    )
    | refine seqK_n ?_)
  obtain ⟨wid, rfl⟩ : ∃ b, b = al := ⟨_, rfl⟩
  refine W_buildSlice (cs := []) rfl (W_norm rfl ?_)
  replace hs := hs.push (.cells 40 .own [])
  repeat' (first
    | (refine K_ops ?_; first
      | refine W_fastB rfl ?_
      | (refine K_load ?_; first
        | (refine W_loadC hs 4 rfl rfl rfl ?_; refine W_norm rfl ?_)
      )
    ))
  refine W_appS0 (E := partE) hs rfl rfl (SlR.now hs hps) rfl ⟨by decide, by omega⟩ ?_
  clear hs
  intro v' c' h' ha' hs
  refine W_norm rfl ?_
  rcases ha' with ⟨⟨e1, _⟩ | ⟨id, kd, rfl, rfl, hkd⟩, _⟩
  · rw [e1] at hne; exact absurd hne (by decide)
  repeat' (first
    | (refine K_ops ?_; first
      | refine W_fastB rfl ?_
      | refine W_nil ?_
      | (refine K_index ?_; first
        | (refine W_indexO rfl rfl ⟨(by first | omega | (simp only [List.length_set, List.length_append, List.length_take, List.length_drop, List.length_replicate, List.length_cons, List.length_nil, decs_length, List.length_map]; omega)), (by first | omega | (simp only [List.length_set, List.length_append, List.length_take, List.length_drop, List.length_replicate, List.length_cons, List.length_nil, decs_length, List.length_map]; omega))⟩ ?_; refine W_norm rfl ?_)
      )
      | (refine K_load ?_; first
        | (refine W_loadC hs 1 rfl rfl rfl ?_; refine W_norm rfl ?_)
      )
      | (refine K_store ?_; first
        | (refine W_storeOF hs 0 rfl rfl rfl rfl rfl (by first | omega | (simp only [List.length_set, List.length_append, List.length_take, List.length_drop, List.length_replicate, List.length_cons, List.length_nil, decs_length, List.length_map]; omega)) (by first | decide | assumption) rfl rfl rfl rfl ?_; clear hs; intro _ hs; try simp only [cell_back, attr_back, List.set_cons_zero, List.set_cons_succ, List.eraseIdx_cons_succ, List.eraseIdx_zero, List.tail_cons, List.nil_append, List.cons_append] at hs; refine W_norm rfl ?_)
        | (refine W_storeC hs 1 rfl rfl rfl rfl (by first | decide | assumption) rfl rfl ?_; clear hs; intro _ hs; try simp only [cell_back, attr_back, List.set_cons_zero, List.set_cons_succ, List.eraseIdx_cons_succ, List.eraseIdx_zero, List.tail_cons, List.nil_append, List.cons_append] at hs; refine W_norm rfl ?_)
      )
    )
    | (refine K_code ?_; first
      | (refine (Hold.out (p := W DD (.code (.seq (.seq (.ops m5_r10) _) _) _ _) _) ?_))
      | refine W_seq ?_
      | refine W_ops ?_
    )
    | refine seqK_n ?_)
  refine ⟨?_⟩
  replace hs : Sep (Now h) ([(id, .cells 40 kd ((P.set kk { P.getD kk part0 with v := ls }).flatMap partE.enc))] :: bvO wid { v with ps := .slice id 0 P.length P.length } :: maO mid v.w v.h u1 (cursL (pgZ v) v.cur v.x v.y (P.map (pmOf ln))) :: c1 :: bvO bx v :: []) _ := hs
  replace hs := (hs.freeze 0 rfl).freeze 2 rfl
  have hle : (Now h).le (((Now h).add [(id, .cells 40 kd ((P.set kk { P.getD kk part0 with v := ls }).flatMap partE.enc))]).add c1) := fun id o k => .inl (.inl k)
  have l1 : SlR cellE (((Now h).add [(id, .cells 40 kd ((P.set kk { P.getD kk part0 with v := ls }).flatMap partE.enc))]).add c1) u1 (cellsC v (P.map (pmOf ln)) B) := ha1.1.inR fun x hx => .inr hx
  have lw : SlR partE (((Now h).add [(id, .cells 40 kd ((P.set kk { P.getD kk part0 with v := ls }).flatMap partE.enc))]).add c1) (.slice id 0 P.length P.length) (P.set kk { P.getD kk part0 with v := ls }) := by
    have hw := OwnS.one (E := partE) (t := 40) (id := id) (L := P.set kk { P.getD kk part0 with v := ls }) hkd
    rw [List.length_set] at hw
    exact hw.inR fun x hx => .inl (.inr hx)
  have hv1 : ViewOk (((Now h).add [(id, .cells 40 kd ((P.set kk { P.getD kk part0 with v := ls }).flatMap partE.enc))]).add c1) ln v P B := hv.mono hle
  have hv2 : ViewOk (((Now h).add [(id, .cells 40 kd ((P.set kk { P.getD kk part0 with v := ls }).flatMap partE.enc))]).add c1) ln { v with ps := .slice id 0 P.length P.length } (P.set kk { P.getD kk part0 with v := ls }) B :=
    ⟨lw, hv1.bs, by rw [List.length_set]; exact hnp0, hv.nb, fun p hp => (List.mem_or_eq_of_mem_set hp).elim (fun m => hv1.p p m) (fun e => by subst e; exact ⟨(hv.p _ (getD_mem (d := part0) hkl)).1, hl.1.mono hle, hl.2⟩), hv.b, hv.s, hv.w, hv.h, hv.x, hv.y⟩
  have hb1 : HasR (((Now h).add [(id, .cells 40 kd ((P.set kk { P.getD kk part0 with v := ls }).flatMap partE.enc))]).add c1) := hb.mono hle
  clear ha1 hps hpl
  generalize ((Now h).add [(id, .cells 40 kd ((P.set kk { P.getD kk part0 with v := ls }).flatMap partE.enc))]).add c1 = R at *
  have hps := hv1.ps
  have hpl := hps.ln
  replace hs : Sep R (bvO wid { v with ps := .slice id 0 P.length P.length } :: maO mid v.w v.h u1 (cursL (pgZ v) v.cur v.x v.y (P.map (pmOf ln))) :: bvO bx v :: []) _ := hs
  repeat' (first
    | (refine K_ops ?_; first
      | refine W_fastB rfl ?_
      | refine W_nil ?_
      | (refine K_call ?_; first
        | (refine W_callsN 12 rfl (w12 (hv2.mono hs.le)) rfl ?_; rintro _ h3 ⟨b, rfl, t⟩; replace hs := hs.call t; try simp only [cell_back, attr_back, List.set_cons_zero, List.set_cons_succ, List.eraseIdx_cons_succ, List.eraseIdx_zero, List.tail_cons, List.nil_append, List.cons_append] at hs; refine W_norm rfl ?_)
      )
      | (refine K_index ?_; first
        | (refine W_indexR rfl rfl (by assumption) rfl ⟨(by first | omega | (simp only [List.length_set, List.length_append, List.length_take, List.length_drop, List.length_replicate, List.length_cons, List.length_nil, decs_length, List.length_map]; omega)), (by first | omega | (simp only [List.length_set, List.length_append, List.length_take, List.length_drop, List.length_replicate, List.length_cons, List.length_nil, decs_length, List.length_map]; omega))⟩ ?_; intro _ _ _; refine W_norm rfl ?_)
      )
      | (refine K_load ?_; first
        | (refine W_loadRP hs rfl (by assumption) rfl ?_; refine W_norm rfl ?_)
        | (refine W_loadCA hs 0 rfl rfl rfl ?_; refine W_norm rfl ?_)
        | (refine W_loadC hs 2 rfl rfl rfl ?_; refine W_norm rfl ?_)
      )
      | (refine K_store ?_; first
        | (refine W_storeC hs 0 rfl rfl rfl rfl (by first | decide | assumption) rfl rfl ?_; clear hs; intro _ hs; try simp only [cell_back, attr_back, List.set_cons_zero, List.set_cons_succ, List.eraseIdx_cons_succ, List.eraseIdx_zero, List.tail_cons, List.nil_append, List.cons_append] at hs; refine W_norm rfl ?_)
      )
      | (refine W_allocS hs ?_; clear hs; intro al _ hs; try simp only [cell_back, attr_back, List.set_cons_zero, List.set_cons_succ, List.eraseIdx_cons_succ, List.eraseIdx_zero, List.tail_cons, List.nil_append, List.cons_append] at hs; refine W_norm rfl ?_)
    )
    | (refine K_code ?_; first
      | (refine (Hold.out (p := W DD (.code (.seq (.seq (.ops m5_r13) _) _) _ _) _) ?_))
      | refine W_seq ?_
      | refine W_ops ?_
      | (refine W_cond rfl (fun hc => ?_) (fun hc => ?_) <;> (try rw [hc]) <;> (try simp only [decide_eq_true_eq, decide_eq_false_iff_not, beq_iff_eq, beq_eq_false_iff_ne, bne_iff_ne, bne_eq_false_iff_eq, Bool.not_eq_true', Bool.not_eq_false', Int.not_lt, Int.not_le, ne_eq, reduceCtorEq, not_true_eq_false, not_false_eq_true, Decidable.not_not] at hc) <;> (try (exfalso; omega)) <;> (try refine W_norm rfl ?_))
      | refine W_skip ?_
      | refine W_ret ?_
    )
    | refine seqK_n ?_
    | refine seqK_r ?_
    | (refine fnK_r rfl ?_; try dsimp only [gd_z, gd_s]))
  · exact ⟨_, rfl, rfl⟩
  refine ⟨?_⟩
  obtain ⟨zid, rfl⟩ : ∃ b, b = al := ⟨_, rfl⟩
  replace hs : Sep R ([(zid, .cells 37 .own (rcE.enc (P.getD kk part0).r))] :: bvO wid { v with ps := .slice id 0 P.length P.length } :: maO mid v.w v.h u1 (cursL (pgZ v) v.cur v.x v.y (P.map (pmOf ln))) :: bvO bx v :: []) _ := hs
  replace hs : Sep R ([(zid, .cells 37 .own (rcE.enc (P.getD kk part0).r))] :: bvO bx v :: bvO wid { v with ps := .slice id 0 P.length P.length } :: maO mid v.w v.h u1 (cursL (pgZ v) v.cur v.x v.y (P.map (pmOf ln))) :: []) _ := hs.reord (fun a => by simp only [List.flatten_cons, List.flatten_nil, List.count_append, List.count_nil, hpOf_append, hpOf_cons, hpOf_nil, List.append_nil, List.eraseIdx_cons_succ, List.eraseIdx_zero, List.tail_cons] <;> omega)
  have hz : RcI (P.getD kk part0).r := (hv.p _ (getD_mem hkl)).1
  repeat' (first
    | (refine K_ops ?_; first
      | refine W_fastB rfl ?_
      | refine W_nil ?_
    )
    | (refine K_code ?_; first
      | refine W_seq ?_
      | refine W_ops ?_
      | refine W_block ?_
    )
    | refine seqK_n ?_)
  refine W_loopB [6, 12, 61, 62, 63, 64, 65, 66, 67, 68, 69, 70, 71, 72, 73, 74, 75, 76, 77, 78, 79, 80, 81, 82] [0, 1, 2, 3, 4, 5, 6, 7, 8, 9, 10, 11, 12, 13, 14, 15, 16, 17, 18, 19, 20, 21, 22, 23, 24, 25, 26, 27, 28, 29, 30, 31, 32, 33, 34, 35, 36, 37, 38, 39, 40, 41, 42, 43, 44, 45, 46, 47, 48, 49, 50, 51, 52, 53, 54, 55, 56, 57, 58, 59, 60, 61, 62, 63, 64, 65, 66, 67, 68, 69, 70, 71, 72, 73, 74, 75, 76, 77, 78, 79, 80, 81, 82, 83, 84, 85, 86, 87, 88, 89, 90, 91, 92, 93, 94, 95, 96, 97, 98, 99, 100, 101, 102, 103, 104, 105, 106, 107, 108, 109, 110, 111, 112, 113, 114, 115, 116, 117, 118, 119, 120, 121, 122, 123, 124, 125, 126, 127, 128, 129, 130, 131, 132, 133, 134, 135, 136, 137, 138, 139, 140, 141, 142, 143, 144, 145, 146, 147, 148, 149, 150, 151, 152, 153, 154, 155, 156, 157, 158, 159, 160, 161, 162, 163, 164, 165, 166, 167, 168, 169, 170, 171, 172, 173, 174] (fun n' sl h' => ∃ (i : Nat), sl = [(12, .sc (.int .i64 (i : Int)))] ∧ n' = P.length - i ∧ i ≤ P.length ∧ (∀ j, j < i → j ≠ kk → cropR (P.getD kk part0).r (P.getD j part0).r = rc0) ∧ Sep R ([(zid, .cells 37 .own (rcE.enc (P.getD kk part0).r))] :: bvO bx v :: bvO wid { v with ps := .slice id 0 P.length P.length } :: maO mid v.w v.h u1 (cursL (pgZ v) v.cur v.x v.y (P.map (pmOf ln))) :: []) h') ?_ ?_
  · refine ⟨_, _, ⟨0, rfl, rfl, by omega, fun j hj => absurd hj (by omega), hs⟩, EnvB.of rfl⟩
  clear hs
  rintro _ _ us _ h7 ⟨i, rfl, rfl, hi, hcr, hs⟩ he
  refine W_spell he rfl ?_
  clear he
  unfold m5_l14
  by_cases hlt : i < P.length
  · have hpi : RcI (P.getD (i : Int).toNat partE.dflt).r := (hv.p _ (getD_mem (d := part0) hlt)).1
    repeat' (first
      | (refine K_ops ?_; first
        | refine W_fastB rfl ?_
        | refine W_nil ?_
        | (refine W_lenL rfl (by first | assumption | exact SlR.ln (by assumption) | exact AccS.ln (by assumption) | exact OwnS.ln (by assumption) | exact VwO.ln (by assumption) | exact OwnP.ln (by assumption) | exact Len.sl) ?_; refine W_norm rfl ?_)
        | (refine K_load ?_; first
          | (refine W_loadC hs 1 rfl rfl rfl ?_; refine W_norm rfl ?_)
        )
      )
      | (refine K_code ?_; first
        | (refine (Hold.out (p := W DD (.code (.seq (.draw m5_r16) _) _ _) _) ?_))
        | refine W_seq ?_
        | refine W_ops ?_
        | (refine W_cond rfl (fun hc => ?_) (fun hc => ?_) <;> (try rw [hc]) <;> (try simp only [decide_eq_true_eq, decide_eq_false_iff_not, beq_iff_eq, beq_eq_false_iff_ne, bne_iff_ne, bne_eq_false_iff_eq, Bool.not_eq_true', Bool.not_eq_false', Int.not_lt, Int.not_le, ne_eq, reduceCtorEq, not_true_eq_false, not_false_eq_true, Decidable.not_not] at hc) <;> (try (exfalso; omega)) <;> (try refine W_norm rfl ?_))
        | refine W_skip ?_
        | refine W_block ?_
      )
      | refine seqK_n ?_)
    refine ⟨?_⟩
    refine W_midB (a := .draw m5_r16) [68, 69, 70, 71, 72, 73, 74, 75, 76, 77, 78, 79, 80, 81, 82] [0, 1, 2, 3, 4, 5, 6, 7, 8, 9, 10, 11, 12, 13, 14, 15, 16, 17, 18, 19, 20, 21, 22, 23, 24, 25, 26, 27, 28, 29, 30, 31, 32, 33, 34, 35, 36, 37, 38, 39, 40, 41, 42, 43, 44, 45, 46, 47, 48, 49, 50, 51, 52, 53, 54, 55, 56, 57, 58, 59, 60, 61, 62, 63, 64, 65, 66, 67, 68, 69, 70, 71, 72, 73, 74, 75, 76, 77, 78, 79, 80, 81, 82, 83, 84, 85, 86, 87, 88, 89, 90, 91, 92, 93, 94, 95, 96, 97, 98, 99, 100, 101, 102, 103, 104, 105, 106, 107, 108, 109, 110, 111, 112, 113, 114, 115, 116, 117, 118, 119, 120, 121, 122, 123, 124, 125, 126, 127, 128, 129, 130, 131, 132, 133, 134, 135, 136, 137, 138, 139, 140, 141, 142, 143, 144, 145, 146, 147, 148, 149, 150, 151, 152, 153, 154, 155, 156, 157, 158, 159, 160, 161, 162, 163, 164, 165, 166, 167, 168, 169, 170, 171, 172, 173, 174] (fun sl h' => ∃ (b : Bool), sl = [(82, .sc (.bool b))] ∧ (b = false → i ≠ kk → cropR (P.getD kk part0).r (P.getD (i : Int).toNat partE.dflt).r = rc0) ∧ Sep R ([(zid, .cells 37 .own (rcE.enc (P.getD kk part0).r))] :: bvO bx v :: bvO wid { v with ps := .slice id 0 P.length P.length } :: maO mid v.w v.h u1 (cursL (pgZ v) v.cur v.x v.y (P.map (pmOf ln))) :: []) h') ?_ ?_
    · refine (conf_crop (kk := kk) (i := i) ⟨rfl, rfl, rfl, rfl, rfl, trivial⟩ hs hps hlt hz hpi).mono ?_
      rintro _ e8 h9 ⟨rfl, sl, ⟨b, rfl, hb9, hs⟩, hE⟩
      refine midK_n ?_
      exact ⟨_, ⟨b, rfl, hb9, hs⟩, hE⟩
    clear hs
    rintro _ us _ h9 ⟨b, rfl, hb9, hs⟩ he
    refine W_spell he rfl ?_
    clear he
    repeat' (first
      | (refine K_ops ?_; first
        | refine W_fastB rfl ?_
        | refine W_nil ?_
        | (refine K_bin ?_; first
          | (refine W_add rfl rfl (IntWalk.i64_in _ (by first | omega | (simp only [List.length_set, List.length_append, List.length_take, List.length_drop, List.length_replicate, List.length_cons, List.length_nil, decs_length, List.length_map]; omega))) ?_; refine W_norm rfl ?_)
        )
      )
      | (refine K_code ?_; first
        | refine W_seq ?_
        | refine W_ops ?_
        | (refine W_cond rfl (fun hc => ?_) (fun hc => ?_) <;> (try rw [hc]) <;> (try simp only [decide_eq_true_eq, decide_eq_false_iff_not, beq_iff_eq, beq_eq_false_iff_ne, bne_iff_ne, bne_eq_false_iff_eq, Bool.not_eq_true', Bool.not_eq_false', Int.not_lt, Int.not_le, ne_eq, reduceCtorEq, not_true_eq_false, not_false_eq_true, Decidable.not_not] at hc) <;> (try (exfalso; omega)) <;> (try refine W_norm rfl ?_))
        | refine W_skip ?_
        | refine W_ret ?_
      )
      | refine seqK_n ?_
      | refine seqK_r ?_
      | refine blockK_r ?_
      | refine blockK_n ?_
      | refine invK_r ?_
      | refine invK_n ?_
      | (refine fnK_r rfl ?_; try dsimp only [gd_z, gd_s]))
    · exact ⟨_, rfl, rfl⟩
    · refine ⟨_, ?_, _, ⟨i + 1, rfl, rfl, ?_, ?_, hs⟩, EnvB.of rfl⟩
      · omega
      · omega
      · intro j hj hne
        by_cases hji : j < i
        · exact hcr j hji hne
        · obtain rfl : j = i := by omega
          exact hb9 (by assumption) hne
  · obtain rfl : i = P.length := by omega
    repeat' (first
      | (refine K_ops ?_; first
        | refine W_fastB rfl ?_
        | refine W_nil ?_
        | (refine W_lenL rfl (by first | assumption | exact SlR.ln (by assumption) | exact AccS.ln (by assumption) | exact OwnS.ln (by assumption) | exact VwO.ln (by assumption) | exact OwnP.ln (by assumption) | exact Len.sl) ?_; refine W_norm rfl ?_)
        | (refine K_load ?_; first
          | (refine W_loadC hs 1 rfl rfl rfl ?_; refine W_norm rfl ?_)
        )
      )
      | (refine K_code ?_; first
        | (refine (Hold.out (p := W DD (.code (.seq (.ops m5_r19) _) _ _) _) ?_))
        | refine W_seq ?_
        | refine W_ops ?_
        | (refine W_cond rfl (fun hc => ?_) (fun hc => ?_) <;> (try rw [hc]) <;> (try simp only [decide_eq_true_eq, decide_eq_false_iff_not, beq_iff_eq, beq_eq_false_iff_ne, bne_iff_ne, bne_eq_false_iff_eq, Bool.not_eq_true', Bool.not_eq_false', Int.not_lt, Int.not_le, ne_eq, reduceCtorEq, not_true_eq_false, not_false_eq_true, Decidable.not_not] at hc) <;> (try (exfalso; omega)) <;> (try refine W_norm rfl ?_))
        | refine W_exit ?_
      )
      | refine seqK_n ?_
      | refine seqK_x ?_
      | refine blockK_e ?_
      | refine invK_x ?_)
    refine ⟨?_⟩
    replace hs : Sep R ([(zid, .cells 37 .own (rcE.enc (P.getD kk part0).r))] :: bvO wid { v with ps := .slice id 0 P.length P.length } :: maO mid v.w v.h u1 (cursL (pgZ v) v.cur v.x v.y (P.map (pmOf ln))) :: bvO bx v :: []) _ := hs.reord (fun a => by simp only [List.flatten_cons, List.flatten_nil, List.count_append, List.count_nil, hpOf_append, hpOf_cons, hpOf_nil, List.append_nil, List.eraseIdx_cons_succ, List.eraseIdx_zero, List.tail_cons] <;> omega)
    refine (conf_tail hb1 hv1 hv2 hok hkl rfl rfl hcr hs l1 ⟨rfl, rfl, rfl, rfl, rfl, rfl, trivial⟩).mono ?_
    rintro _ e3 h3 ⟨rfl, he3⟩
    obtain ⟨us3, rfl⟩ := he3.list
    repeat' (first
      | (refine fnK_r rfl ?_; try dsimp only [gd_z, gd_s]))
    exact ⟨_, rfl, rfl⟩
end Go.Proofs.YtfmldkjidfigbaaDoor
/- Compose: ComposeConfined, of all that it may be handed. -/
set_option linter.unusedSimpArgs false
set_option linter.unusedVariables false
set_option maxHeartbeats 1000000
set_option maxRecDepth 100000
namespace Go.Proofs.YtfmldkjidfigbaaDoor
open Go Go.Jx Go.RowKit

theorem walk_composeConfined (H : Heap) (avs : List AV) (hwf : H.l.length = H.n) (hs : Sub (HL Tryd.prog.globals.size jxLs) H) (ho : OpenA2 Tryd.prog.bytesOf H [(true, shV), (false, [.int .u8]), (false, [shLs])] avs) : W DD (.call 5 avs H) (fun _ vs _ => vs = [.sc (.bool true)]) := by
  simp only [OpenA2] at ho
  obtain ⟨svs, l', rfl, o1, k2, s2, l2, hk2, rfl, o2, k3, s3, l3, hk3, rfl, o3, rfl⟩ := ho
  cases hk2
  cases hk3
  obtain ⟨ln, hln⟩ := lns_exist H
  obtain ⟨v, P, B, rfl, hv, hnp⟩ := openView hln o1
  simp only [OpenS2] at o2
  obtain ⟨a, rfl, a1, a2⟩ := o2
  rw [show IntKind.u8.min = 0 by decide] at a1
  rw [show IntKind.u8.max = 255 by decide] at a2
  have hb := hasR_start hs
  by_cases hok : OkV v
  · exact (conf_yes hb hv hnp ⟨a1, a2⟩ (openLs hln o3) hok).mono fun _ _ _ ⟨r, hr, h3⟩ => by rw [hr, h3]
  · exact (conf_no hb hv hok).mono fun _ _ _ ⟨r, hr, h3⟩ => by rw [hr, h3]
end Go.Proofs.YtfmldkjidfigbaaDoor
