/- The law ScrollBack: the plain machine answers true -/
import Derived.Test.YtkmhbkanbbcgnaaDoorJxW13back
set_option linter.unusedSimpArgs false
set_option linter.unusedVariables false
set_option maxHeartbeats 4000000
set_option maxRecDepth 100000
namespace Go.Proofs.YtkmhbkanbbcgnaaDoor
open Go Go.Jx

theorem w3 {v : SV} {G : List (SV × List Cell)} {h : Heap} (m : Mv) (hv : NsR cellE (Now h) v G) (hl : G.length ≤ 9223372036854775807) : Wc DD 3 [.sc v, .agg (mvE.enc m)] h fun w h' => w = .sc (.bool true) := by
  have hs := Sep.entry h
  by_cases hok : greatB G = false ∧ 0 ≤ m.t ∧ m.t ≤ m.b ∧ m.b < G.length ∧ 1 ≤ m.n ∧ m.w ≤ 60
  · obtain ⟨hg, h1, h2, h3, h4, h5⟩ := hok
    obtain ⟨g1, g2⟩ := great_false hg
    have hvl := hv.ln
    obtain ⟨T, hT⟩ := Int.eq_ofNat_of_zero_le h1
    obtain ⟨B, hB⟩ := Int.eq_ofNat_of_zero_le (show 0 ≤ m.b by omega)
    rw [hT, hB] at h2
    rw [hB] at h3
    obtain ⟨K, hK0⟩ := Int.eq_ofNat_of_zero_le (show 0 ≤ min m.n (m.b - m.t + 1) by omega)
    obtain ⟨q, hq⟩ : ∃ q, B + 1 = T + K + q := ⟨B + 1 - T - K, by omega⟩
    have hK1 : 1 ≤ K := by omega
    have hKn : (K : Int) ≤ m.n := by omega
    have hK : Hid (min m.n (m.b - m.t + 1) = (K : Int)) := hK0
    have hmv : ∀ n : Nat, n = G.length → moves n m.t m.b m.n := by rintro n rfl; unfold moves; omega
    have hmany : many m.t m.b m.n = K := by unfold many; rw [hK0]; rfl
    clear hK0
    have hq2 : Hid ((m.b - m.t + 1).toNat - K = q) := by unfold Hid; omega
    have hT2 : Hid (m.t.toNat = T) := by unfold Hid; omega
    have hb2 : Hid ((m.b + 1).toNat - K = T + q) := by unfold Hid; omega
    obtain ⟨F, hFe⟩ : ∃ F, F = List.replicate K (freshL m.w m.a) := ⟨_, rfl⟩
    have hFl : F.length = K := by rw [hFe, List.length_replicate]
    have hFm : ∀ x ∈ F, x.length ≤ 60 := by
      rw [hFe]
      intro x hx
      rw [(List.mem_replicate.1 hx).2]
      unfold freshL
      split
      · rw [List.length_replicate]; omega
      · simp
    obtain ⟨V, hV⟩ : ∃ V, V = G.map Prod.snd := ⟨_, rfl⟩
    have hVl : V.length = G.length := by rw [hV, List.length_map]
    have hVm : ∀ x ∈ V, x.length ≤ 60 := by
      rw [hV]
      intro x hx
      obtain ⟨g, hg, rfl⟩ := List.mem_map.1 hx
      exact g2 g hg
    have hle : T + K + q ≤ V.length := by omega
    have dr : ∀ W : List (List Cell), W.length = G.length → downRows W m.t m.b m.n F = downOut W F T K q := fun W hW => by
      unfold downRows; rw [if_pos (hmv _ hW), hT2.out, hmany, hq2.out]
    have dg : ∀ W : List (List Cell), W.length = G.length → downGone W m.t m.b m.n = (W.drop (T + q)).take K := fun W hW => by
      unfold downGone; rw [if_pos (hmv _ hW), hmany, hb2.out]
    have ur : ∀ W : List (List Cell), W.length = G.length → upRows W m.t m.b m.n F = upOut W F T K q := fun W hW => by
      unfold upRows; rw [if_pos (hmv _ hW), hT2.out, hmany, hq2.out]
    have ug : ∀ W : List (List Cell), W.length = G.length → upGone W m.t m.b m.n = (W.drop T).take K := fun W hW => by
      unfold upGone; rw [if_pos (hmv _ hW), hT2.out, hmany]
    have hdl := downOut_length hle hFl
    have hul := upOut_length hle hFl
    have hbl : (upOut (downOut V F T K q) F T K q).length = G.length := by rw [upOut_length (by rw [hdl]; exact hle) hFl, hdl, hVl]
    refine W_enter d3 ?_
    show W _ (.code m3_code [.sc v, .agg (mvE.enc m), undefA, undefA, undefA, undefA, undefA, undefA, undefA, undefA, undefA, undefA, undefA, undefA, undefA, undefA, undefA, undefA, undefA, undefA, undefA, undefA, undefA, undefA, undefA, undefA, undefA, undefA, undefA, undefA, undefA, undefA, undefA, undefA, undefA, undefA, undefA, undefA, undefA, undefA, undefA, undefA, undefA, undefA, undefA, undefA, undefA, undefA, undefA, undefA, undefA, undefA, undefA, undefA, undefA, undefA, undefA, undefA, undefA, undefA, undefA, undefA, undefA, undefA, undefA, undefA, undefA, undefA, undefA, undefA, undefA, undefA, undefA, undefA, undefA, undefA, undefA, undefA, undefA, undefA, undefA, undefA, undefA, undefA, undefA, undefA, undefA, undefA, undefA, undefA, undefA, undefA, undefA, undefA, undefA, undefA, undefA, undefA, undefA, undefA, undefA, undefA, undefA, undefA, undefA, undefA, undefA, undefA, undefA, undefA, undefA, undefA, undefA, undefA, undefA, undefA, undefA, undefA, undefA, undefA, undefA, undefA, undefA, undefA, undefA, undefA, undefA, undefA, undefA, undefA, undefA, undefA, undefA, undefA, undefA, undefA, undefA, undefA, undefA, undefA, undefA, undefA, undefA, undefA, undefA, undefA, undefA, undefA, undefA, undefA, undefA, undefA, undefA, undefA, undefA, undefA, undefA, undefA, undefA, undefA, undefA, undefA, undefA, undefA, undefA, undefA, undefA, undefA, undefA, undefA, undefA, undefA, undefA, undefA, undefA, undefA, undefA, undefA, undefA, undefA, undefA, undefA, undefA, undefA, undefA, undefA, undefA, undefA, undefA, undefA, undefA, undefA, undefA, undefA, undefA, undefA, undefA, undefA, undefA, undefA, undefA, undefA, undefA, undefA, undefA, undefA, undefA, undefA, undefA, undefA, undefA, undefA, undefA, undefA, undefA, undefA, undefA, undefA, undefA, undefA, undefA, undefA, undefA, undefA, undefA, undefA, undefA, undefA, undefA, undefA, undefA, undefA, undefA, undefA, undefA, undefA, undefA, undefA, undefA, undefA, undefA, undefA, undefA, undefA, undefA, undefA, undefA, undefA, undefA, undefA, undefA, undefA, undefA, undefA, undefA, undefA, undefA, undefA, undefA, undefA] _) _
    unfold m3_code
    repeat' (first
      | (refine K_ops ?_; first
        | refine W_fastB rfl ?_
        | refine W_nil ?_
        | (refine W_min2 rfl rfl ?_; rw [hK.out]; refine W_norm rfl ?_)
        | (refine K_guard ?_; first
          | refine W_guard_on rfl ?_
          | (refine W_guardF rfl (fun hc => ?_) (fun hc => ?_) <;> (try rw [hc]) <;> (try simp only [decide_eq_true_eq, decide_eq_false_iff_not, beq_iff_eq, beq_eq_false_iff_ne, bne_iff_ne, bne_eq_false_iff_eq, Bool.not_eq_true', Bool.not_eq_false', Int.not_lt, Int.not_le, ne_eq, reduceCtorEq, not_true_eq_false, not_false_eq_true, Decidable.not_not] at hc) <;> (try (exfalso; omega)) <;> (try refine W_norm rfl ?_))
        )
        | (refine K_call ?_; first
          | (refine W_callsN 6 rfl (w6 (NsR.now hs hv) hl) rfl ?_; rintro _ _ ⟨rfl, rfl⟩; rw [hg]; refine W_norm rfl ?_)
          | (refine W_callsN 8 rfl (w8 m.a (NsR.now hs hv) (by omega) (fun g hg => Nat.le_trans (g2 g hg) (by omega))) rfl ?_; rintro _ h2 ⟨ud, gd, c, cg, Dh, Dg, rfl, hD, hDg, hDL, hDgL, t'⟩; replace hs := hs.call t'; rw [← hV, hmany, ← hFe, dr V hVl] at hDL; rw [← hV, dg V hVl] at hDgL; have hDn := hD.ln; have hDgn := hDg.ln; have hD1 := (len_of hDL).trans (hdl.trans hVl); have hDg1 : Dg.length = K := (by rw [len_of hDgL, List.length_take, List.length_drop] <;> omega); try simp only [List.cons_append, List.nil_append] at hs; replace hs := hs.front 4 rfl; simp only [List.eraseIdx_cons_succ, List.eraseIdx_zero, List.tail_cons] at hs; refine W_norm rfl ?_)
          | (refine W_callsN 9 rfl (w9 m.a (NsO.now hD hs (by simp) (by simp)) (by rw [pairs_length, hD1]; omega) (bound hDL (fun x hx => Nat.le_trans ((downOut_mem hx).elim (hVm x) (hFm x)) (by omega)))) rfl ?_; rintro _ h2 ⟨ub, gb, c2, cg2, Bh, Bg, rfl, hB', hBg, hBL, hBgL, t'⟩; replace hs := hs.call t'; rw [pairs_snd, hDL, hmany, ← hFe, ur _ (hdl.trans hVl)] at hBL; rw [pairs_snd, hDL, ug _ (hdl.trans hVl)] at hBgL; have hBn := hB'.ln; have hBgn := hBg.ln; have hB1 := (len_of hBL).trans hbl; have hBg1 : Bg.length = K := (by rw [len_of hBgL, List.length_take, List.length_drop, hdl] <;> omega); try simp only [List.cons_append, List.nil_append] at hs; replace hs := hs.front 4 rfl; simp only [List.eraseIdx_cons_succ, List.eraseIdx_zero, List.tail_cons] at hs; refine W_norm rfl ?_)
          | (refine W_callsN 9 rfl (w9 m.a (NsR.now hs hv) (by omega) (fun g hg => Nat.le_trans (g2 g hg) (by omega))) rfl ?_; rintro _ h2 ⟨uu, gu, c3, cg3, Uh, Ug, rfl, hU, hUg, hUL, hUgL, t'⟩; replace hs := hs.call t'; rw [← hV, hmany, ← hFe, ur V hVl] at hUL; rw [← hV, ug V hVl] at hUgL; have hUn := hU.ln; have hUgn := hUg.ln; have hU1 := (len_of hUL).trans (hul.trans hVl); have hUg1 : Ug.length = K := (by rw [len_of hUgL, List.length_take, List.length_drop] <;> omega); try simp only [List.cons_append, List.nil_append] at hs; replace hs := hs.front 4 rfl; simp only [List.eraseIdx_cons_succ, List.eraseIdx_zero, List.tail_cons] at hs; refine W_norm rfl ?_)
        )
        | (refine W_lenL rfl (by first | assumption | exact SlR.ln (by assumption) | exact AccS.ln (by assumption) | exact OwnS.ln (by assumption) | exact VwO.ln (by assumption) | exact OwnP.ln (by assumption) | exact Len.sl) ?_; refine W_norm rfl ?_)
        | (refine K_bin ?_; first
          | (refine W_add rfl rfl (IntWalk.i64_in _ (by first | omega | (simp only [List.length_set, List.length_append, List.length_take, List.length_drop, List.length_replicate, List.length_cons, List.length_nil, decs_length, List.length_map]; omega))) ?_; refine W_norm rfl ?_)
          | (refine W_sub rfl rfl (IntWalk.i64_in _ (by first | omega | (simp only [List.length_set, List.length_append, List.length_take, List.length_drop, List.length_replicate, List.length_cons, List.length_nil, decs_length, List.length_map]; omega))) ?_; refine W_norm rfl ?_)
        )
        | (refine K_pick ?_; first
          | refine W_pick_f rfl rfl (W_norm rfl ?_)
        )
        | (refine K_load ?_; first
          | (refine W_loadC hs 0 rfl rfl rfl ?_; refine W_norm rfl ?_)
          | (refine W_loadCA hs 0 rfl rfl rfl ?_; refine W_norm rfl ?_)
        )
        | (refine W_boxS hs rfl rfl ?_; clear hs; intro bx _ hs; try simp only [cell_back, attr_back, List.set_cons_zero, List.set_cons_succ, List.eraseIdx_cons_succ, List.eraseIdx_zero, List.tail_cons, List.nil_append, List.cons_append] at hs; refine W_norm rfl ?_)
      )
      | (refine K_code ?_; first
        | (exact w3b (V := V) (F := F) (T := T) (B := B) (K := K) (q := q) m ⟨30, .own, mvE.enc m, hs.at1 0 rfl, rfl⟩ (hD.now hs (by simp) (by simp)) (hDg.now hs (by simp) (by simp)) (hB'.now hs (by simp) (by simp)) (hBg.now hs (by simp) (by simp)) (hU.now hs (by simp) (by simp)) (hUg.now hs (by simp) (by simp)) (hv.now hs) hV g1 g2 hT hB h3 hq hK1 hVl hVm hFl hFm hFe hle hDL hDgL hBL hBgL hUL hUgL hD1 hB1 hU1 hDg1 hBg1 hUg1 ⟨rfl, rfl, rfl, rfl, rfl, rfl, rfl, rfl, rfl, rfl, rfl, rfl, trivial⟩)
        | refine W_seq ?_
        | refine W_ops ?_
        | (refine W_cond rfl (fun hc => ?_) (fun hc => ?_) <;> (try rw [hc]) <;> (try simp only [decide_eq_true_eq, decide_eq_false_iff_not, beq_iff_eq, beq_eq_false_iff_ne, bne_iff_ne, bne_eq_false_iff_eq, Bool.not_eq_true', Bool.not_eq_false', Int.not_lt, Int.not_le, ne_eq, reduceCtorEq, not_true_eq_false, not_false_eq_true, Decidable.not_not] at hc) <;> (try (exfalso; omega)) <;> (try refine W_norm rfl ?_))
        | refine W_skip ?_
      )
      | refine seqK_n ?_)
  · have hcond : greatB G = true ∨ m.t < 0 ∨ m.b < m.t ∨ G.length ≤ m.b ∨ m.n < 1 ∨ 60 < m.w := by
      by_cases hb : greatB G = false
      · have : ¬ (0 ≤ m.t ∧ m.t ≤ m.b ∧ m.b < G.length ∧ 1 ≤ m.n ∧ m.w ≤ 60) := fun hh => hok ⟨hb, hh⟩
        omega
      · exact .inl (by simpa using hb)
    have hvl := hv.ln
    refine W_enter d3 ?_
    show W _ (.code m3_code [.sc v, .agg (mvE.enc m), undefA, undefA, undefA, undefA, undefA, undefA, undefA, undefA, undefA, undefA, undefA, undefA, undefA, undefA, undefA, undefA, undefA, undefA, undefA, undefA, undefA, undefA, undefA, undefA, undefA, undefA, undefA, undefA, undefA, undefA, undefA, undefA, undefA, undefA, undefA, undefA, undefA, undefA, undefA, undefA, undefA, undefA, undefA, undefA, undefA, undefA, undefA, undefA, undefA, undefA, undefA, undefA, undefA, undefA, undefA, undefA, undefA, undefA, undefA, undefA, undefA, undefA, undefA, undefA, undefA, undefA, undefA, undefA, undefA, undefA, undefA, undefA, undefA, undefA, undefA, undefA, undefA, undefA, undefA, undefA, undefA, undefA, undefA, undefA, undefA, undefA, undefA, undefA, undefA, undefA, undefA, undefA, undefA, undefA, undefA, undefA, undefA, undefA, undefA, undefA, undefA, undefA, undefA, undefA, undefA, undefA, undefA, undefA, undefA, undefA, undefA, undefA, undefA, undefA, undefA, undefA, undefA, undefA, undefA, undefA, undefA, undefA, undefA, undefA, undefA, undefA, undefA, undefA, undefA, undefA, undefA, undefA, undefA, undefA, undefA, undefA, undefA, undefA, undefA, undefA, undefA, undefA, undefA, undefA, undefA, undefA, undefA, undefA, undefA, undefA, undefA, undefA, undefA, undefA, undefA, undefA, undefA, undefA, undefA, undefA, undefA, undefA, undefA, undefA, undefA, undefA, undefA, undefA, undefA, undefA, undefA, undefA, undefA, undefA, undefA, undefA, undefA, undefA, undefA, undefA, undefA, undefA, undefA, undefA, undefA, undefA, undefA, undefA, undefA, undefA, undefA, undefA, undefA, undefA, undefA, undefA, undefA, undefA, undefA, undefA, undefA, undefA, undefA, undefA, undefA, undefA, undefA, undefA, undefA, undefA, undefA, undefA, undefA, undefA, undefA, undefA, undefA, undefA, undefA, undefA, undefA, undefA, undefA, undefA, undefA, undefA, undefA, undefA, undefA, undefA, undefA, undefA, undefA, undefA, undefA, undefA, undefA, undefA, undefA, undefA, undefA, undefA, undefA, undefA, undefA, undefA, undefA, undefA, undefA, undefA, undefA, undefA, undefA, undefA, undefA, undefA, undefA, undefA] _) _
    unfold m3_code
    repeat' (first
      | (refine K_ops ?_; first
        | refine W_fastB rfl ?_
        | refine W_nil ?_
        | (refine K_guard ?_; first
          | refine W_guard_on rfl ?_
          | refine W_guard_off rfl rfl (W_norm rfl ?_)
          | (refine W_guardF rfl (fun hc => ?_) (fun hc => ?_) <;> (try rw [hc]) <;> (try simp only [decide_eq_true_eq, decide_eq_false_iff_not, beq_iff_eq, beq_eq_false_iff_ne, bne_iff_ne, bne_eq_false_iff_eq, Bool.not_eq_true', Bool.not_eq_false', Int.not_lt, Int.not_le, ne_eq, reduceCtorEq, not_true_eq_false, not_false_eq_true, Decidable.not_not] at hc) <;> (try (exfalso; omega)) <;> (try refine W_norm rfl ?_))
        )
        | (refine K_call ?_; first
          | (refine W_callsN 6 rfl (w6 (NsR.now hs hv) hl) rfl ?_; rintro _ _ ⟨rfl, rfl⟩; refine W_norm rfl ?_)
          | (refine W_callsN 7 rfl (w7 _) rfl ?_; rintro _ _ ⟨rfl, rfl⟩; refine W_norm rfl ?_)
        )
        | (refine W_lenL rfl (by first | assumption | exact SlR.ln (by assumption) | exact AccS.ln (by assumption) | exact OwnS.ln (by assumption) | exact VwO.ln (by assumption) | exact OwnP.ln (by assumption) | exact Len.sl) ?_; refine W_norm rfl ?_)
        | (refine K_bin ?_; first
          | (refine W_add rfl rfl (IntWalk.i64_in _ (by first | omega | (simp only [List.length_set, List.length_append, List.length_take, List.length_drop, List.length_replicate, List.length_cons, List.length_nil, decs_length, List.length_map]; omega))) ?_; refine W_norm rfl ?_)
          | (refine W_sub rfl rfl (IntWalk.i64_in _ (by first | omega | (simp only [List.length_set, List.length_append, List.length_take, List.length_drop, List.length_replicate, List.length_cons, List.length_nil, decs_length, List.length_map]; omega))) ?_; refine W_norm rfl ?_)
        )
        | (refine K_pick ?_; first
          | refine W_pick_t rfl rfl (W_norm rfl ?_)
          | refine W_pick_f rfl rfl (W_norm rfl ?_)
        )
        | (refine K_load ?_; first
          | (refine W_loadC hs 0 rfl rfl rfl ?_; refine W_norm rfl ?_)
          | (refine W_loadCA hs 0 rfl rfl rfl ?_; refine W_norm rfl ?_)
        )
        | (refine W_boxS hs rfl rfl ?_; clear hs; intro bx _ hs; try simp only [cell_back, attr_back, List.set_cons_zero, List.set_cons_succ, List.eraseIdx_cons_succ, List.eraseIdx_zero, List.tail_cons, List.nil_append, List.cons_append] at hs; refine W_norm rfl ?_)
        | (refine W_min2 rfl rfl ?_; refine W_norm rfl ?_)
      )
      | (refine K_code ?_; first
        | refine W_seq ?_
        | refine W_ops ?_
        | refine W_cond_t rfl ?_
        | (refine W_cond rfl (fun hc => ?_) (fun hc => ?_) <;> (try rw [hc]) <;> (try simp only [decide_eq_true_eq, decide_eq_false_iff_not, beq_iff_eq, beq_eq_false_iff_ne, bne_iff_ne, bne_eq_false_iff_eq, Bool.not_eq_true', Bool.not_eq_false', Int.not_lt, Int.not_le, ne_eq, reduceCtorEq, not_true_eq_false, not_false_eq_true, Decidable.not_not] at hc) <;> (try (exfalso; omega)) <;> (try refine W_norm rfl ?_))
        | refine W_skip ?_
        | refine W_ret ?_
      )
      | refine seqK_n ?_
      | refine seqK_r ?_
      | (refine fnK_r rfl ?_; try dsimp only [gd_z, gd_s]))
    all_goals first | exact ⟨_, rfl, rfl⟩ | (exfalso; rcases hcond with hh | hh | hh | hh | hh | hh <;> first | omega | simp_all)

theorem openCell {H : Heap} {l : List SV} (o : OpenL H [.int .i32, .int .u8, .int .u16, .int .u8, .int .u32, .int .u8, .int .u32] l) : ∃ a, l = cellE.enc a ∧ (-2147483648 ≤ a.r ∧ a.r ≤ 2147483647 ∧ 0 ≤ a.w ∧ a.w ≤ 255) := by
  simp only [OpenL, OpenS] at o
  obtain ⟨_, _, rfl, ⟨r, rfl, hr1, hr2⟩, _, _, rfl, ⟨w, rfl, hw1, hw2⟩, _, _, rfl, ⟨f, rfl, _⟩, _, _, rfl, ⟨fk, rfl, _⟩, _, _, rfl, ⟨fn, rfl, _⟩, _, _, rfl, ⟨bk, rfl, _⟩, _, _, rfl, ⟨bn, rfl, _⟩, rfl⟩ := o
  exact ⟨⟨r, w, ⟨f, fk, fn, bk, bn⟩⟩, rfl, hr1, hr2, hw1, hw2⟩
theorem openMv {H : Heap} {l : List SV} (o : OpenL H [.int .i64, .int .i64, .int .i64, .int .i64, .int .i64, .int .u16, .int .u8, .int .u32, .int .u8, .int .u32] l) : ∃ a, l = mvE.enc a ∧ (-9223372036854775808 ≤ a.y ∧ a.y ≤ 9223372036854775807) := by
  simp only [OpenL, OpenS] at o
  obtain ⟨_, _, rfl, ⟨y, rfl, hy⟩, _, _, rfl, ⟨t, rfl, _⟩, _, _, rfl, ⟨b, rfl, _⟩, _, _, rfl, ⟨n, rfl, _⟩, _, _, rfl, ⟨w, rfl, _⟩, _, _, rfl, ⟨f, rfl, _⟩, _, _, rfl, ⟨fk, rfl, _⟩, _, _, rfl, ⟨fn, rfl, _⟩, _, _, rfl, ⟨bk, rfl, _⟩, _, _, rfl, ⟨bn, rfl, _⟩, rfl⟩ := o
  exact ⟨⟨y, t, b, n, w, ⟨f, fk, fn, bk, bn⟩⟩, rfl, hy⟩
theorem walk_scrollBack (H : Heap) (avs : List AV) (hwf : H.l.length = H.n) (hs : Sub (HL Tryd.prog.globals.size jxLs) H) (ho : OpenA H [(false, [.slice 38 1 [.slice 40 7 [.int .i32, .int .u8, .int .u16, .int .u8, .int .u32, .int .u8, .int .u32]]]), (true, [.int .i64, .int .i64, .int .i64, .int .i64, .int .i64, .int .u16, .int .u8, .int .u32, .int .u8, .int .u32])] avs) : W DD (.call 3 avs H) (fun _ vs _ => vs = [.sc (.bool true)]) := by
  simp only [OpenA] at ho
  obtain ⟨k, s, l', hk, rfl, o1, svs, l2, rfl, o2, rfl⟩ := ho
  cases hk
  obtain ⟨G, hG, _, hlen, _⟩ := o1.ns (E := cellE) rfl (fun l o => openCell o)
  obtain ⟨m, rfl, _⟩ := openMv o2
  exact (w3 m hG (by omega)).mono fun _ _ _ ⟨v, hv, h3⟩ => by rw [hv, h3]
end Go.Proofs.YtkmhbkanbbcgnaaDoor
