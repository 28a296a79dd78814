/- The law ScrollApart: the plain machine answers true, last part. -/
import Derived.Test.YtkmhbkanbbcgnaaDoorJxW13apart3
import Derived.Test.YtkmhbkanbbcgnaaDoorJxW13back2
set_option linter.unusedSimpArgs false
set_option linter.unusedVariables false
set_option maxHeartbeats 4000000
set_option maxRecDepth 100000
namespace Go.Proofs.YtkmhbkanbbcgnaaDoor
open Go Go.Jx

def okL (z : List Cell) : Prop := z.length ≤ 100000 ∧ ∀ y ∈ z, y.w ≠ 99
def okV (Z : List (List Cell)) : Prop := Z.length ≤ 100000 ∧ ∀ z ∈ Z, okL z
theorem fresh_ok {w : Int} (a : Attr) (h : w ≤ 60) : okL (freshL w a) := by
  unfold freshL
  split
  · refine ⟨by rw [List.length_replicate]; omega, fun y hy => ?_⟩
    rw [(List.mem_replicate.1 hy).2]
    show (0 : Int) ≠ 99
    decide
  · exact ⟨by simp, by simp⟩
theorem many_le {m : Nat} {t b n : Int} (h : moves m t b n) : many t b n ≤ m ∧ t.toNat ≤ m := by
  unfold moves at h; unfold many; omega
theorem mem_fill {w : Int} {a : Attr} {k : Nat} {z : List Cell} (h : z ∈ List.replicate k (freshL w a)) (hw : w ≤ 60) : okL z := by
  rw [(List.mem_replicate.1 h).2]; exact fresh_ok a hw
theorem up_ok {V : List (List Cell)} {t b n w : Int} {a : Attr} (hV : V.length ≤ 60) (hz : ∀ z ∈ V, okL z) (hw : w ≤ 60) : okV (upRows V t b n (List.replicate (many t b n) (freshL w a))) := by
  unfold upRows
  split
  · rename_i hm
    obtain ⟨h1, h2⟩ := many_le hm
    refine ⟨?_, fun z h => ?_⟩
    · unfold upOut; simp only [List.length_append, List.length_take, List.length_drop, List.length_replicate]; omega
    · rcases upOut_mem h with h | h
      · exact hz z h
      · exact mem_fill h hw
  · exact ⟨by omega, hz⟩
theorem down_ok {V : List (List Cell)} {t b n w : Int} {a : Attr} (hV : V.length ≤ 60) (hz : ∀ z ∈ V, okL z) (hw : w ≤ 60) : okV (downRows V t b n (List.replicate (many t b n) (freshL w a))) := by
  unfold downRows
  split
  · rename_i hm
    obtain ⟨h1, h2⟩ := many_le hm
    refine ⟨?_, fun z h => ?_⟩
    · unfold downOut; simp only [List.length_append, List.length_take, List.length_drop, List.length_replicate]; omega
    · rcases downOut_mem h with h | h
      · exact hz z h
      · exact mem_fill h hw
  · exact ⟨by omega, hz⟩
theorem upg_ok {V : List (List Cell)} {t b n : Int} (hV : V.length ≤ 60) (hz : ∀ z ∈ V, okL z) : okV (upGone V t b n) := by
  unfold upGone
  split
  · exact ⟨by rw [List.length_take, List.length_drop]; omega, fun z h => hz z (List.mem_of_mem_drop (List.mem_of_mem_take h))⟩
  · exact ⟨by simp, by simp⟩
theorem downg_ok {V : List (List Cell)} {t b n : Int} (hV : V.length ≤ 60) (hz : ∀ z ∈ V, okL z) : okV (downGone V t b n) := by
  unfold downGone
  split
  · exact ⟨by rw [List.length_take, List.length_drop]; omega, fun z h => hz z (List.mem_of_mem_drop (List.mem_of_mem_take h))⟩
  · exact ⟨by simp, by simp⟩
theorem ite_ok {p : Prop} [Decidable p] {A B : List (List Cell)} (h1 : okV A) (h2 : okV B) : okV (if p then A else B) := by
  split <;> assumption
theorem fine_of {u : SV} {c : Hp} {H : List (Hd Cell)} {Z : List (List Cell)} (p : NsO cellE 40 38 u H c) (h : H.map Hd.L = Z) (k : okV Z) : fine ⟨u, c, H⟩ := by
  subst h
  refine ⟨p, by have := k.1; rwa [List.length_map] at this, fun r hr => ?_⟩
  exact k.2 _ (List.mem_map_of_mem hr)

/-- The six answers in a slice, then one after another. -/
theorem apart_build {a0 a7 : SV} {x1 x2 x3 x4 x5 x6 : Res} {R : Ro} {e : List AV} {h : Heap} (hn : ∀ x ∈ [x1, x2, x3, x4, x5, x6], fine x) (hs : Sep R [resOf [x1, x2, x3, x4, x5, x6]] h)
    (he : EnvIs 195 [(0, .sc a0), (7, .sc a7), (9, .sc x1.v), (10, .sc x2.v), (11, .sc x3.v), (12, .sc x4.v), (13, .sc x5.v), (14, .sc x6.v)] e) :
    W DD (.code (.seq (.ops m4_r23) (.block 6 (.loop m4_l24))) e h) (fun x e' h' => x = .normal ∧ Sep R [] h' ∧ EnvIs 195 [(0, .sc a0), (7, .sc a7)] e') := by
  obtain ⟨us, rfl⟩ := he.list
  repeat' (first
    | (refine K_ops ?_; first
      | refine W_fastB rfl ?_
    )
    | (refine K_code ?_; first
      | refine W_seq ?_
      | refine W_ops ?_
    ))
  refine W_buildS svEl hs (cs := [x1.v, x2.v, x3.v, x4.v, x5.v, x6.v]) rfl rfl ?_
  intro v' c' h' o1 _ hs
  refine W_norm rfl ?_
  replace hs := hs.freeze 0 rfl
  simp only [List.eraseIdx_cons_zero] at hs
  have hr : SlR svEl (R.add c') v' ([x1, x2, x3, x4, x5, x6].map Res.v) := o1.inR fun x hx => .inr hx
  have hl6 : Len v' 6 := hr.ln
  repeat' (first
    | (refine K_ops ?_; first
      | refine W_fastB rfl ?_
      | refine W_nil ?_
      | (refine W_lenL rfl (by first | assumption | exact SlR.ln (by assumption) | exact AccS.ln (by assumption) | exact OwnS.ln (by assumption) | exact VwO.ln (by assumption) | exact OwnP.ln (by assumption) | exact Len.sl) ?_; refine W_norm rfl ?_)
    )
    | (refine K_code ?_; first
      | (refine (apart_six rfl hr hn hs ⟨rfl, rfl, rfl, rfl, rfl, rfl, trivial⟩).mono ?_)
    )
    | refine seqK_n ?_)
  rintro _ e2 h2 ⟨rfl, hs', he2⟩
  exact ⟨rfl, hs'.unadd, he2⟩

theorem w4 {v : SV} {G : List (SV × List Cell)} {h : Heap} (m : Mv) (hv : NsR cellE (Now h) v G) (hl : G.length ≤ 9223372036854775807) : Wc DD 4 [.sc v, .agg (mvE.enc m)] h fun w h' => w = .sc (.bool true) := by
  have hs := Sep.entry h
  have hvl := hv.ln
  by_cases hok : greatB G = false ∧ m.w ≤ 60
  · obtain ⟨hg, hw⟩ := hok
    obtain ⟨g1, g2⟩ := great_false hg
    refine W_enter d4 ?_
    show W _ (.code m4_code [.sc v, .agg (mvE.enc m), undefA, undefA, undefA, undefA, undefA, undefA, undefA, undefA, undefA, undefA, undefA, undefA, undefA, undefA, undefA, undefA, undefA, undefA, undefA, undefA, undefA, undefA, undefA, undefA, undefA, undefA, undefA, undefA, undefA, undefA, undefA, undefA, undefA, undefA, undefA, undefA, undefA, undefA, undefA, undefA, undefA, undefA, undefA, undefA, undefA, undefA, undefA, undefA, undefA, undefA, undefA, undefA, undefA, undefA, undefA, undefA, undefA, undefA, undefA, undefA, undefA, undefA, undefA, undefA, undefA, undefA, undefA, undefA, undefA, undefA, undefA, undefA, undefA, undefA, undefA, undefA, undefA, undefA, undefA, undefA, undefA, undefA, undefA, undefA, undefA, undefA, undefA, undefA, undefA, undefA, undefA, undefA, undefA, undefA, undefA, undefA, undefA, undefA, undefA, undefA, undefA, undefA, undefA, undefA, undefA, undefA, undefA, undefA, undefA, undefA, undefA, undefA, undefA, undefA, undefA, undefA, undefA, undefA, undefA, undefA, undefA, undefA, undefA, undefA, undefA, undefA, undefA, undefA, undefA, undefA, undefA, undefA, undefA, undefA, undefA, undefA, undefA, undefA, undefA, undefA, undefA, undefA, undefA, undefA, undefA, undefA, undefA, undefA, undefA, undefA, undefA, undefA, undefA, undefA, undefA, undefA, undefA, undefA, undefA, undefA, undefA, undefA, undefA, undefA, undefA, undefA, undefA, undefA, undefA, undefA, undefA, undefA, undefA, undefA, undefA, undefA, undefA, undefA, undefA, undefA, undefA, undefA, undefA, undefA, undefA, undefA, undefA, undefA, undefA, undefA, undefA, undefA, undefA] _) _
    unfold m4_code
    repeat' (first
      | (refine K_ops ?_; first
        | refine W_fastB rfl ?_
        | refine W_nil ?_
        | (refine K_guard ?_; first
          | refine W_guard_on rfl ?_
        )
        | (refine K_call ?_; first
          | (refine W_callsN 6 rfl (w6 (NsR.now hs hv) hl) rfl ?_; rintro _ _ ⟨rfl, rfl⟩; rw [hg]; refine W_norm rfl ?_)
        )
        | (refine K_pick ?_; first
          | refine W_pick_f rfl rfl (W_norm rfl ?_)
        )
        | (refine K_load ?_; first
          | (refine W_loadC hs 0 rfl rfl rfl ?_; refine W_norm rfl ?_)
        )
        | (refine W_boxS hs rfl rfl ?_; clear hs; intro bx _ hs; try simp only [cell_back, attr_back, List.set_cons_zero, List.set_cons_succ, List.eraseIdx_cons_succ, List.eraseIdx_zero, List.tail_cons, List.nil_append, List.cons_append] at hs; refine W_norm rfl ?_)
      )
      | (refine K_code ?_; first
        | (refine (apart_first (NsR.now hs hv) (by omega) (fun g hg => Nat.le_trans (g2 g hg) (by omega)) ⟨rfl, rfl, rfl, trivial⟩).mono ?_)
        | refine W_seq ?_
        | refine W_ops ?_
        | (refine W_cond rfl (fun hc => ?_) (fun hc => ?_) <;> (try rw [hc]) <;> (try simp only [decide_eq_true_eq, decide_eq_false_iff_not, beq_iff_eq, beq_eq_false_iff_ne, bne_iff_ne, bne_eq_false_iff_eq, Bool.not_eq_true', Bool.not_eq_false', Int.not_lt, Int.not_le, ne_eq, reduceCtorEq, not_true_eq_false, not_false_eq_true, Decidable.not_not] at hc) <;> (try (exfalso; omega)) <;> (try refine W_norm rfl ?_))
        | refine W_skip ?_
      )
      | refine seqK_n ?_)
    rintro _ e2 h2 (⟨rfl, he2⟩ | ⟨rfl, rfl, hne, he2⟩)
    · obtain ⟨us, rfl⟩ := he2.list
      refine seqK_r ?_
      repeat' (first
        | (refine fnK_r rfl ?_; try dsimp only [gd_z, gd_s]))
      exact ⟨_, rfl, rfl⟩
    obtain ⟨us, rfl⟩ := he2.list
    replace hs := hs.freeze 0 rfl
    have hq : PtR ((Now h).add [(bx, .cells 30 .own (mvE.enc m))]) bx 0 (mvE.enc m) := ⟨30, .own, mvE.enc m, .inr (by simp), rfl⟩
    replace hv := hv.add [(bx, .cells 30 .own (mvE.enc m))]
    generalize (Now h).add [(bx, .cells 30 .own (mvE.enc m))] = R at *
    simp only [List.eraseIdx_cons_zero] at hs
    refine seqK_n ?_
    repeat' (first
      | (refine K_ops ?_; first
        | refine W_fastB rfl ?_
        | refine W_nil ?_
      )
      | (refine K_code ?_; first
        | (refine (apart_was hv hs g1 g2 ⟨rfl, rfl, rfl, rfl, trivial⟩).mono ?_)
        | refine W_seq ?_
        | refine W_ops ?_
      )
      | refine seqK_n ?_)
    rintro _ e3 h3 ⟨u, c, W, rfl, hW, hWL, hs', he3⟩
    obtain ⟨us, rfl⟩ := he3.list
    replace hs := (hs'.freeze 0 rfl).freeze 0 rfl
    have nW := hW.add R
    replace hv := (hv.add c).add (hpOf W)
    replace hq : PtR ((R.add c).add (hpOf W)) bx 0 (mvE.enc m) := by
      obtain ⟨t0, k0, cs0, q1, q2⟩ := hq
      exact ⟨t0, k0, cs0, .inl (.inl q1), q2⟩
    generalize (R.add c).add (hpOf W) = R2 at *
    simp only [List.eraseIdx_cons_zero] at hs
    clear hs' he3 he2 hW R
    have hz : ∀ z ∈ G.map Prod.snd, okL z := by
      intro z hz
      obtain ⟨g, hg, rfl⟩ := List.mem_map.1 hz
      exact ⟨Nat.le_trans (g2 g hg) (by omega), hne g hg⟩
    have hV : (G.map Prod.snd).length ≤ 60 := by rw [List.length_map]; exact g1
    refine seqK_n ?_
    repeat' (first
      | (refine K_ops ?_; first
        | refine W_fastB rfl ?_
        | refine W_nil ?_
        | (refine K_call ?_; first
          | (refine W_callsN 9 rfl (w9 m.a (NsR.now hs hv) (by omega) (fun g hg => Nat.le_trans (g2 g hg) (by omega))) rfl ?_; rintro _ h2 ⟨u1, u2, c1, c2, H1, H2, rfl, n1, n2, l1, l2, t'⟩; replace hs := hs.call t'; try simp only [List.cons_append, List.nil_append] at hs; refine W_norm rfl ?_)
          | (refine W_callsN 8 rfl (w8 m.a (NsR.now hs hv) (by omega) (fun g hg => Nat.le_trans (g2 g hg) (by omega))) rfl ?_; rintro _ h2 ⟨u3, u4, c3, c4, H3, H4, rfl, n3, n4, l3, l4, t'⟩; replace hs := hs.call t'; try simp only [List.cons_append, List.nil_append] at hs; refine W_norm rfl ?_)
          | (refine W_callsN 12 rfl (w12 m.a (NsR.now hs hv) (by omega) (fun g hg => Nat.le_trans (g2 g hg) (by omega))) rfl ?_; rintro _ h2 ⟨u5, c5, H5, rfl, n5, l5, t'⟩; replace hs := hs.call t'; try simp only [List.cons_append, List.nil_append] at hs; refine W_norm rfl ?_)
          | (refine W_callsN 13 rfl (w13 m.a (NsR.now hs hv) (by omega) (fun g hg => Nat.le_trans (g2 g hg) (by omega))) rfl ?_; rintro _ h2 ⟨u6, c6, H6, rfl, n6, l6, t'⟩; replace hs := hs.call t'; try simp only [List.cons_append, List.nil_append] at hs; refine W_norm rfl ?_)
        )
        | (refine K_load ?_; first
          | (refine W_loadR hs rfl (by assumption) rfl ?_; refine W_norm rfl ?_)
          | (refine W_loadRF hs rfl (by assumption) rfl ?_; refine W_norm rfl ?_)
          | (refine W_loadRP hs rfl (by assumption) rfl ?_; refine W_norm rfl ?_)
        )
      )
      | (refine K_code ?_; first
        | (refine (apart_build (x1 := ⟨u1, c1, H1⟩) (x2 := ⟨u2, c2, H2⟩) (x3 := ⟨u3, c3, H3⟩) (x4 := ⟨u4, c4, H4⟩) (x5 := ⟨u5, c5, H5⟩) (x6 := ⟨u6, c6, H6⟩) ?_ (hs.reord (fun x => by simp only [resOf, List.flatMap_cons, List.flatMap_nil, List.flatten_cons, List.flatten_nil, List.count_append, List.count_nil, List.append_nil]; omega)) ⟨rfl, rfl, rfl, rfl, rfl, rfl, rfl, rfl, rfl, trivial⟩).mono ?_)
        | refine W_seq ?_
        | refine W_ops ?_
      )
      | refine seqK_n ?_)
    · have f1 := fine_of n1 l1 (up_ok hV hz hw)
      have f2 := fine_of n2 l2 (upg_ok hV hz)
      have f3 := fine_of n3 l3 (down_ok hV hz hw)
      have f4 := fine_of n4 l4 (downg_ok hV hz)
      have hV2 : okV (G.map Prod.snd) := ⟨by omega, hz⟩
      have f5 := fine_of n5 l5 (ite_ok (down_ok hV hz hw) hV2)
      have f6 := fine_of n6 l6 (ite_ok (up_ok hV hz hw) hV2)
      intro x hx
      simp only [List.mem_cons, List.not_mem_nil, or_false] at hx
      rcases hx with rfl | rfl | rfl | rfl | rfl | rfl <;> assumption
    rintro _ e4 h4 ⟨rfl, hs', he4⟩
    obtain ⟨us, rfl⟩ := he4.list
    have hWn : W.length = G.length := by
      have := congrArg List.length hWL
      rwa [List.length_map, List.length_map] at this
    have hWb : ∀ g ∈ pairs W, g.2.length ≤ 100000 := by
      intro g hg
      obtain ⟨r, hr, rfl⟩ := List.mem_map.1 hg
      exact (hz _ (by rw [← hWL]; exact List.mem_map_of_mem hr)).1
    refine seqK_n ?_
    clear hs
    have hs := hs'
    have hsame : decide (G.map Prod.snd = (pairs W).map Prod.snd) = true := decide_eq_true (by rw [pairs_snd, hWL])
    repeat' (first
      | (refine K_ops ?_; first
        | refine W_fastB rfl ?_
        | refine W_nil ?_
        | (refine K_guard ?_; first
          | refine W_guard_on rfl ?_
        )
        | (refine K_call ?_; first
          | (refine W_callsN 10 rfl (w10 (NsR.now hs hv) (NsR.now hs nW) (by omega) (by rw [pairs_length]; omega) (fun g hg => Nat.le_trans (g2 g hg) (by omega)) hWb) rfl ?_; rintro _ _ ⟨rfl, rfl⟩; rw [hsame]; refine W_norm rfl ?_)
          | (refine W_callsN 7 rfl (w7 _) rfl ?_; rintro _ _ ⟨rfl, rfl⟩; refine W_norm rfl ?_)
        )
        | (refine K_pick ?_; first
          | refine W_pick_t rfl rfl (W_norm rfl ?_)
        )
      )
      | (refine K_code ?_; first
        | refine W_seq ?_
        | refine W_ops ?_
        | refine W_ret ?_
      )
      | refine seqK_n ?_
      | (refine fnK_r rfl ?_; try dsimp only [gd_z, gd_s]))
    all_goals exact ⟨_, rfl, rfl⟩
  · have hcond : greatB G = true ∨ 60 < m.w := by
      by_cases hb : greatB G = false
      · have : ¬ m.w ≤ 60 := fun hh => hok ⟨hb, hh⟩
        omega
      · exact .inl (by simpa using hb)
    refine W_enter d4 ?_
    show W _ (.code m4_code [.sc v, .agg (mvE.enc m), undefA, undefA, undefA, undefA, undefA, undefA, undefA, undefA, undefA, undefA, undefA, undefA, undefA, undefA, undefA, undefA, undefA, undefA, undefA, undefA, undefA, undefA, undefA, undefA, undefA, undefA, undefA, undefA, undefA, undefA, undefA, undefA, undefA, undefA, undefA, undefA, undefA, undefA, undefA, undefA, undefA, undefA, undefA, undefA, undefA, undefA, undefA, undefA, undefA, undefA, undefA, undefA, undefA, undefA, undefA, undefA, undefA, undefA, undefA, undefA, undefA, undefA, undefA, undefA, undefA, undefA, undefA, undefA, undefA, undefA, undefA, undefA, undefA, undefA, undefA, undefA, undefA, undefA, undefA, undefA, undefA, undefA, undefA, undefA, undefA, undefA, undefA, undefA, undefA, undefA, undefA, undefA, undefA, undefA, undefA, undefA, undefA, undefA, undefA, undefA, undefA, undefA, undefA, undefA, undefA, undefA, undefA, undefA, undefA, undefA, undefA, undefA, undefA, undefA, undefA, undefA, undefA, undefA, undefA, undefA, undefA, undefA, undefA, undefA, undefA, undefA, undefA, undefA, undefA, undefA, undefA, undefA, undefA, undefA, undefA, undefA, undefA, undefA, undefA, undefA, undefA, undefA, undefA, undefA, undefA, undefA, undefA, undefA, undefA, undefA, undefA, undefA, undefA, undefA, undefA, undefA, undefA, undefA, undefA, undefA, undefA, undefA, undefA, undefA, undefA, undefA, undefA, undefA, undefA, undefA, undefA, undefA, undefA, undefA, undefA, undefA, undefA, undefA, undefA, undefA, undefA, undefA, undefA, undefA, undefA, undefA, undefA, undefA, undefA, undefA, undefA, undefA, undefA] _) _
    unfold m4_code
    repeat' (first
      | (refine K_ops ?_; first
        | refine W_fastB rfl ?_
        | refine W_nil ?_
        | (refine K_guard ?_; first
          | refine W_guard_on rfl ?_
          | refine W_guard_off rfl rfl (W_norm rfl ?_)
          | (refine W_guardF rfl (fun hc => ?_) (fun hc => ?_) <;> (try rw [hc]) <;> (try simp only [decide_eq_true_eq, decide_eq_false_iff_not, beq_iff_eq, beq_eq_false_iff_ne, bne_iff_ne, bne_eq_false_iff_eq, Bool.not_eq_true', Bool.not_eq_false', Int.not_lt, Int.not_le, ne_eq, reduceCtorEq, not_true_eq_false, not_false_eq_true, Decidable.not_not] at hc) <;> (try (exfalso; omega)) <;> (try refine W_norm rfl ?_))
        )
        | (refine K_call ?_; first
          | (refine W_callsN 6 rfl (w6 (NsR.now hs hv) hl) rfl ?_; rintro _ _ ⟨rfl, rfl⟩; refine W_norm rfl ?_)
          | (refine W_callsN 7 rfl (w7 _) rfl ?_; rintro _ _ ⟨rfl, rfl⟩; refine W_norm rfl ?_)
        )
        | (refine K_pick ?_; first
          | refine W_pick_t rfl rfl (W_norm rfl ?_)
          | refine W_pick_f rfl rfl (W_norm rfl ?_)
        )
        | (refine K_load ?_; first
          | (refine W_loadC hs 0 rfl rfl rfl ?_; refine W_norm rfl ?_)
        )
        | (refine W_boxS hs rfl rfl ?_; clear hs; intro bx _ hs; try simp only [cell_back, attr_back, List.set_cons_zero, List.set_cons_succ, List.eraseIdx_cons_succ, List.eraseIdx_zero, List.tail_cons, List.nil_append, List.cons_append] at hs; refine W_norm rfl ?_)
      )
      | (refine K_code ?_; first
        | (refine W_midB (a := .seq (.ops m4_r3) (.block 0 (.loop m4_l4))) [5] [0, 1, 2, 3, 4, 5, 6, 7, 8, 9, 10, 11, 12, 13, 14, 15, 16, 17, 18, 19, 20, 21, 22, 23, 24, 25, 26, 27, 28, 29, 30, 31, 32, 33, 34, 35, 36, 37, 38, 39, 40, 41, 42, 43, 44, 45, 46, 47, 48, 49, 50, 51, 52, 53, 54, 55, 56, 57, 58, 59, 60, 61, 62, 63, 64, 65, 66, 67, 68, 69, 70, 71, 72, 73, 74, 75, 76, 77, 78, 79, 80, 81, 82, 83, 84, 85, 86, 87, 88, 89, 90, 91, 92, 93, 94, 95, 96, 97, 98, 99, 100, 101, 102, 103, 104, 105, 106, 107, 108, 109, 110, 111, 112, 113, 114, 115, 116, 117, 118, 119, 120, 121, 122, 123, 124, 125, 126, 127, 128, 129, 130, 131, 132, 133, 134, 135, 136, 137, 138, 139, 140, 141, 142, 143, 144, 145, 146, 147, 148, 149, 150, 151, 152, 153, 154, 155, 156, 157, 158, 159, 160, 161, 162, 163, 164, 165, 166, 167, 168, 169, 170, 171, 172, 173, 174, 175, 176, 177, 178, 179, 180, 181, 182, 183, 184, 185, 186, 187, 188, 189, 190, 191, 192, 193, 194] (fun sl h' => sl = [] ∧ False) ?_ ?_)
        | refine W_seq ?_
        | refine W_ops ?_
        | refine W_cond_t rfl ?_
        | (refine W_cond rfl (fun hc => ?_) (fun hc => ?_) <;> (try rw [hc]) <;> (try simp only [decide_eq_true_eq, decide_eq_false_iff_not, beq_iff_eq, beq_eq_false_iff_ne, bne_iff_ne, bne_eq_false_iff_eq, Bool.not_eq_true', Bool.not_eq_false', Int.not_lt, Int.not_le, ne_eq, reduceCtorEq, not_true_eq_false, not_false_eq_true, Decidable.not_not] at hc) <;> (try (exfalso; omega)) <;> (try refine W_norm rfl ?_))
        | refine W_skip ?_
        | refine W_ret ?_
        | refine W_block ?_
      )
      | refine seqK_n ?_
      | refine seqK_r ?_
      | (refine fnK_r rfl ?_; try dsimp only [gd_z, gd_s]))
    all_goals first | exact ⟨_, rfl, rfl⟩ | (exfalso; rcases hcond with hh | hh <;> first | omega | simp_all)

theorem walk_scrollApart (H : Heap) (avs : List AV) (hwf : H.l.length = H.n) (hs : Sub (HL Tryd.prog.globals.size jxLs) H) (ho : OpenA H [(false, [.slice 38 1 [.slice 40 7 [.int .i32, .int .u8, .int .u16, .int .u8, .int .u32, .int .u8, .int .u32]]]), (true, [.int .i64, .int .i64, .int .i64, .int .i64, .int .i64, .int .u16, .int .u8, .int .u32, .int .u8, .int .u32])] avs) : W DD (.call 4 avs H) (fun _ vs _ => vs = [.sc (.bool true)]) := by
  simp only [OpenA] at ho
  obtain ⟨k, s, l', hk, rfl, o1, svs, l2, rfl, o2, rfl⟩ := ho
  cases hk
  obtain ⟨G, hG, _, hlen, _⟩ := o1.ns (E := cellE) rfl (fun l o => openCell o)
  obtain ⟨m, rfl, _⟩ := openMv o2
  exact (w4 m hG (by omega)).mono fun _ _ _ ⟨v, hv, h3⟩ => by rw [hv, h3]
end Go.Proofs.YtkmhbkanbbcgnaaDoor
