/- Reflow: the law ReflowPlaces. CLNONE -/
import Derived.Test.YtllhbhhgihdakaaDoorJxW15i
import Derived.Test.YtllhbhhgihdakaaDoorJxW15u
set_option linter.unusedSimpArgs false
set_option linter.unusedVariables false
set_option maxHeartbeats 4000000
set_option maxRecDepth 100000
namespace Go.Proofs.YtllhbhhgihdakaaDoor
open Go Go.Jx

theorem w3 {v : SV} {G : List LnC} {w x y : Int} {h : Heap} (hv : LnsR (Now h) v G) (hl : G.length ≤ 2 ^ 63 - 1) (hl2 : ∀ g ∈ G, g.2.length ≤ 2 ^ 63 - 1) :
    Wc DD 3 [.sc v, i64 w, i64 x, i64 y] h fun r h' => r = bo true := by
  have hs := Sep.entry h
  refine W_enter d3 ?_
  show W _ (.code m3_code [.sc v, i64 w, i64 x, i64 y, undefA, undefA, undefA, undefA, undefA, undefA, undefA, undefA, undefA, undefA, undefA, undefA, undefA, undefA, undefA, undefA, undefA, undefA, undefA, undefA, undefA, undefA, undefA, undefA, undefA, undefA, undefA, undefA, undefA, undefA, undefA, undefA, undefA, undefA, undefA, undefA, undefA, undefA, undefA, undefA] _) _
  unfold m3_code
  repeat' (first
    | (refine K_ops ?_; first
      | refine W_fastB rfl ?_
      | refine W_nil ?_
      | (refine K_call ?_; first
        | (refine W_callsN 9 rfl (w9 _) rfl ?_; rintro _ _ ⟨rfl, rfl⟩; refine W_norm rfl ?_)
        | (refine W_callsN 8 rfl (w8b (hv.now hs) hl hl2) rfl ?_; rintro _ h ⟨gb, rfl, rfl, hgb⟩; refine W_norm rfl ?_)
      )
    )
    | (refine K_code ?_; first
      | refine W_seq ?_
      | refine W_ops ?_
      | (refine W_cond rfl (fun hc => ?_) (fun hc => ?_) <;> (try rw [hc]) <;> (try simp only [decide_eq_true_eq, decide_eq_false_iff_not, beq_iff_eq, beq_eq_false_iff_ne, bne_iff_ne, bne_eq_false_iff_eq, Bool.not_eq_true', Bool.not_eq_false', Int.not_lt, Int.not_le, ne_eq, reduceCtorEq, not_true_eq_false, not_false_eq_true, Decidable.not_not] at hc) <;> (try (exfalso; omega)) <;> (try refine W_norm rfl ?_))
      | refine W_skip ?_
      | refine W_ret ?_
    )
    | refine seqK_n ?_
    | refine seqK_r ?_
    | (refine fnK_r rfl ?_; try dsimp only [gd_z, gd_s]))
  · exact ⟨_, rfl, rfl⟩
  obtain ⟨g1, g2⟩ := hgb (by assumption)
  have g0 : G.length ≤ 100000 := by omega
  have g3 : ∀ g ∈ G, g.2.length ≤ 100000 := fun g hg => Nat.le_trans (g2 g hg) (by omega)
  repeat' (first
    | (refine K_ops ?_; first
      | refine W_fastB rfl ?_
      | refine W_nil ?_
      | (refine K_guard ?_; first
        | refine W_guard_on rfl ?_
        | (refine W_guardT rfl (fun hc => ?_) (fun hc => ?_) <;> (try rw [hc]) <;> (try simp only [decide_eq_true_eq, decide_eq_false_iff_not, beq_iff_eq, beq_eq_false_iff_ne, bne_iff_ne, bne_eq_false_iff_eq, Bool.not_eq_true', Bool.not_eq_false', Int.not_lt, Int.not_le, ne_eq, reduceCtorEq, not_true_eq_false, not_false_eq_true, Decidable.not_not] at hc) <;> (try (exfalso; omega)) <;> (try refine W_norm rfl ?_))
      )
      | (refine K_call ?_; first
        | (refine W_callsN 9 rfl (w9 _) rfl ?_; rintro _ _ ⟨rfl, rfl⟩; refine W_norm rfl ?_)
        | (refine W_callsN 10 rfl (w10 (w := w) (x := x) (y := y) hv g0 g3) rfl ?_; rintro _ h1 ⟨rfl, t⟩; replace hs := hs.call t; try simp only [cell_back, attr_back, List.set_cons_zero, List.set_cons_succ, List.eraseIdx_cons_succ, List.eraseIdx_zero, List.tail_cons, List.nil_append, List.cons_append] at hs; have hv1 := hv.now hs; refine W_norm rfl ?_)
        | (refine W_callsN 12 rfl (w12 hv1 g0) rfl ?_; rintro _ h2 ⟨u2, c2, rfl, ha2, t⟩; replace hs := hs.call t; try simp only [cell_back, attr_back, List.set_cons_zero, List.set_cons_succ, List.eraseIdx_cons_succ, List.eraseIdx_zero, List.tail_cons, List.nil_append, List.cons_append] at hs; refine W_norm rfl ?_)
        | (refine W_callsN 11 rfl (w11 (v := u2) (w := w) (x := x) (y := y) ⟨(AccS.inPl ha2).mono (InP.now hs (by simp)), fun g hg => (hv.2 g hg).mono hs.le⟩ g0 g3) rfl ?_; rintro _ h3 ⟨rfl, t⟩; replace hs := hs.call t; try simp only [cell_back, attr_back, List.set_cons_zero, List.set_cons_succ, List.eraseIdx_cons_succ, List.eraseIdx_zero, List.tail_cons, List.nil_append, List.cons_append] at hs; refine W_norm rfl ?_)
      )
      | (refine K_pick ?_; first
        | refine W_pick_t rfl rfl (W_norm rfl ?_)
      )
    )
    | (refine K_code ?_; first
      | refine W_seq ?_
      | refine W_ops ?_
      | refine W_ret ?_
    )
    | refine seqK_n ?_
    | (refine fnK_r rfl ?_; try dsimp only [gd_z, gd_s]))
  all_goals first | exact ⟨_, rfl, rfl⟩ | skip
  all_goals skip
theorem walk_reflowPlaces (H : Heap) (avs : List AV) (hwf : H.l.length = H.n) (hs : Sub (HL Tryd.prog.globals.size jxLs) H) (ho : OpenA H [(false, [.slice 39 3 [.slice 48 7 [.int .i32, .int .u8, .int .u16, .int .u8, .int .u32, .int .u8, .int .u32], .bool, .bool]]), (false, [.int .i64]), (false, [.int .i64]), (false, [.int .i64])] avs) : W DD (.call 3 avs H) (fun _ vs _ => vs = [.sc (.bool true)]) := by
  simp only [OpenA] at ho
  obtain ⟨_, _, _, hk, rfl, o1, _, _, _, hk2, rfl, o2, _, _, _, hk3, rfl, o3, _, _, _, hk4, rfl, o4, rfl⟩ := ho
  cases hk
  cases hk2
  cases hk3
  cases hk4
  simp only [OpenS] at o2 o3 o4
  obtain ⟨w, rfl, _⟩ := o2
  obtain ⟨x, rfl, _⟩ := o3
  obtain ⟨y, rfl, _⟩ := o4
  obtain ⟨G, hG, h1, h2⟩ := openLines o1
  exact (w3 hG h1 h2).mono fun _ _ _ ⟨v, hv, h3⟩ => by rw [hv, h3]
end Go.Proofs.YtllhbhhgihdakaaDoor
