/- Lines: Up and Down. -/
import Derived.Test.YtkmhbkanbbcgnaaDoorJxW13scroll
set_option linter.unusedSimpArgs false
set_option linter.unusedVariables false
set_option maxHeartbeats 1000000
set_option maxRecDepth 100000
namespace Go.Proofs.YtkmhbkanbbcgnaaDoor
open Go Go.Jx

def upOut {α : Type} (V F : List α) (t k q : Nat) : List α := V.take t ++ (V.drop (t + k)).take q ++ F ++ V.drop (t + k + q)
def downOut {α : Type} (V F : List α) (t k q : Nat) : List α := V.take t ++ F ++ (V.drop t).take q ++ V.drop (t + k + q)
theorem up_eq {α : Type} {V F : List α} {t k q : Nat} (h : t + k + q ≤ V.length) (hF : F.length = k) :
    (V.take t ++ ((V.drop (t + k)).take q).take (V.length - t) ++ V.drop (t + min ((V.drop (t + k)).take q).length (V.length - t))).take (t + q) ++ F.take (V.length - (t + q)) ++ (V.take t ++ ((V.drop (t + k)).take q).take (V.length - t) ++ V.drop (t + min ((V.drop (t + k)).take q).length (V.length - t))).drop (t + q + min F.length (V.length - (t + q))) = upOut V F t k q := by
  have hM : ((V.drop (t + k)).take q).length = q := by rw [List.length_take, List.length_drop]; omega
  unfold upOut
  generalize (V.drop (t + k)).take q = M at *
  have hP : (V.take t).length = t := by rw [List.length_take]; omega
  rw [List.take_of_length_le (show M.length ≤ V.length - t by omega), hM, Nat.min_eq_left (by omega), List.take_left' (by rw [List.length_append]; omega), List.take_of_length_le (show F.length ≤ V.length - (t + q) by omega), hF, Nat.min_eq_left (by omega)]
  rw [← List.drop_drop, List.drop_left' (by rw [List.length_append]; omega), List.drop_drop]
  congr 2
  omega
theorem down_eq {α : Type} {V F : List α} {t k q : Nat} (h : t + k + q ≤ V.length) (hF : F.length = k) :
    (V.take (t + k) ++ ((V.drop t).take (V.length - t)).take q ++ V.drop (t + k + min ((V.drop t).take (V.length - t)).length q)).take t ++ F.take (V.length - t) ++ (V.take (t + k) ++ ((V.drop t).take (V.length - t)).take q ++ V.drop (t + k + min ((V.drop t).take (V.length - t)).length q)).drop (t + min F.length (V.length - t)) = downOut V F t k q := by
  have e0 : (V.drop t).take (V.length - t) = V.drop t := List.take_of_length_le (by rw [List.length_drop]; omega)
  rw [e0]
  have hM : ((V.drop t).take q).length = q := by rw [List.length_take, List.length_drop]; omega
  have hP : (V.take (t + k)).length = t + k := by rw [List.length_take]; omega
  unfold downOut
  rw [List.length_drop, Nat.min_eq_right (show q ≤ V.length - t by omega), List.take_of_length_le (show F.length ≤ V.length - t by omega), hF, Nat.min_eq_left (by omega)]
  have e1 : (V.take (t + k) ++ (V.drop t).take q ++ V.drop (t + k + q)).take t = V.take t := by
    rw [List.append_assoc, List.take_append_of_le_length (by omega), List.take_take, Nat.min_eq_left (by omega)]
  have e2 : (V.take (t + k) ++ (V.drop t).take q ++ V.drop (t + k + q)).drop (t + k) = (V.drop t).take q ++ V.drop (t + k + q) := by
    rw [List.append_assoc]; exact List.drop_left' hP
  rw [e1, e2, List.append_assoc, List.append_assoc, List.append_assoc]

theorem upOut_map {α β : Type} (f : α → β) (V F : List α) (t k q : Nat) : (upOut V F t k q).map f = upOut (V.map f) (F.map f) t k q := by
  unfold upOut; simp only [List.map_append, List.map_take, List.map_drop]
theorem downOut_map {α β : Type} (f : α → β) (V F : List α) (t k q : Nat) : (downOut V F t k q).map f = downOut (V.map f) (F.map f) t k q := by
  unfold downOut; simp only [List.map_append, List.map_take, List.map_drop]
theorem split4 {α : Type} {A : List α} {t k q : Nat} (h : t + k + q ≤ A.length) : A = A.take t ++ (A.drop t).take k ++ (A.drop (t + k)).take q ++ A.drop (t + k + q) := by
  rw [List.append_assoc, List.append_assoc, ← List.drop_drop (i := q), List.take_append_drop, ← List.drop_drop (i := k), List.take_append_drop, List.take_append_drop]


theorem w17 {v : SV} {m : Nat} {t b : Int} {h : Heap} (hv : Len v m) : Wc DD 17 [.sc v, i64 t, i64 b] h fun w h' => w = bo (decide (0 ≤ t ∧ t ≤ b ∧ b < m)) ∧ h' = h := by
  have hs := Sep.entry h
  refine W_enter d17 ?_
  show W _ (.code m17_code [.sc v, i64 t, i64 b, undefA, undefA, undefA, undefA, undefA, undefA, undefA, undefA, undefA, undefA, undefA, undefA, undefA, undefA, undefA, undefA, undefA] _) _
  unfold m17_code
  repeat' (first
    | (refine K_ops ?_; first
      | refine W_fastB rfl ?_
      | refine W_nil ?_
      | (refine K_guard ?_; first
        | refine W_guard_on rfl ?_
        | refine W_guard_off rfl rfl (W_norm rfl ?_)
        | (refine W_guardT rfl (fun hc => ?_) (fun hc => ?_) <;> (try rw [hc]) <;> (try simp only [decide_eq_true_eq, decide_eq_false_iff_not, beq_iff_eq, beq_eq_false_iff_ne, bne_iff_ne, bne_eq_false_iff_eq, Bool.not_eq_true', Bool.not_eq_false', Int.not_lt, Int.not_le, ne_eq, reduceCtorEq, not_true_eq_false, not_false_eq_true, Decidable.not_not] at hc) <;> (try (exfalso; omega)) <;> (try refine W_norm rfl ?_))
      )
      | (refine W_lenL rfl (by first | assumption | exact SlR.ln (by assumption) | exact AccS.ln (by assumption) | exact OwnS.ln (by assumption) | exact VwO.ln (by assumption) | exact OwnP.ln (by assumption) | exact Len.sl) ?_; refine W_norm rfl ?_)
      | (refine K_pick ?_; first
        | refine W_pick_t rfl rfl (W_norm rfl ?_)
        | refine W_pick_f rfl rfl (W_norm rfl ?_)
      )
    )
    | (refine K_code ?_; first
      | refine W_seq ?_
      | refine W_ops ?_
      | refine W_ret ?_
    )
    | refine seqK_n ?_
    | (refine fnK_r rfl ?_; try dsimp only [gd_z, gd_s]))
  all_goals exact ⟨_, rfl, by congr 2; first | (rw [decide_eq_decide]; omega) | (rw [decide_eq_false (by omega)]) | (rw [decide_eq_true (by omega)]), rfl⟩



theorem w18 {v : SV} {L : List SV} {h : Heap} (hv : SlR svEl (Now h) v L) (hl : L.length ≤ 100000) : Wc DD 18 [.sc v] h fun w h' => ∃ u c, w = .sc u ∧ AccS svEl 38 u L c ∧ Sep (Now h) [c] h' := by
  have hs := Sep.entry h
  have hv' := hv
  rcases hv' with ⟨rfl, rfl | ⟨b, rfl⟩⟩ | ⟨id, off, cap, t, kd, cs, rfl, h2, h3, h4⟩
  · refine W_enter d18 ?_
    show W _ (.code m18_code [.sc .nils, undefA, undefA, undefA, undefA, undefA, undefA, undefA] _) _
    unfold m18_code
    repeat' (first
      | (refine K_ops ?_; first
        | refine W_fastB rfl ?_
        | refine W_nil ?_
        | (refine K_bin ?_; first
          | (refine W_nilSl_t rfl rfl rfl ?_; refine W_norm rfl ?_)
        )
      )
      | (refine K_code ?_; first
        | refine W_seq ?_
        | refine W_ops ?_
        | refine W_cond_t rfl ?_
        | refine W_ret ?_
      )
      | refine seqK_n ?_
      | refine seqK_r ?_
      | (refine fnK_r rfl ?_; try dsimp only [gd_z, gd_s]))
    exact ⟨_, rfl, _, _, rfl, AccS.nil _, hs.nil⟩
  · refine W_enter d18 ?_
    show W _ (.code m18_code [.sc (.eslice b), undefA, undefA, undefA, undefA, undefA, undefA, undefA] _) _
    unfold m18_code
    repeat' (first
      | (refine K_ops ?_; first
        | refine W_fastB rfl ?_
        | refine W_nil ?_
        | (refine K_bin ?_; first
          | (refine W_nilSl_e rfl rfl rfl ?_; refine W_norm rfl ?_)
        )
        | (refine K_bslice ?_; first
          | (refine W_buildS0 svEl hs ?_; clear hs; intro _ _ _ _ hs; try simp only [cell_back, attr_back, List.set_cons_zero, List.set_cons_succ, List.eraseIdx_cons_succ, List.eraseIdx_zero, List.tail_cons, List.nil_append, List.cons_append] at hs; refine W_norm rfl ?_)
        )
        | (refine K_append ?_; first
          | (refine W_appS hs 0 rfl rfl (by assumption) rfl (by first | assumption | exact SlR.now hs (by assumption) | exact AccS.now (by assumption) hs (by simp) | exact OwnS.now (by assumption) hs (by simp)) rfl ⟨by decide, (by first | omega | (simp only [List.length_set, List.length_append, List.length_take, List.length_drop, List.length_replicate, List.length_cons, List.length_nil, decs_length, List.length_map]; omega))⟩ ?_; clear hs; intro _ _ _ _ hs; try simp only [cell_back, attr_back, List.set_cons_zero, List.set_cons_succ, List.eraseIdx_cons_succ, List.eraseIdx_zero, List.tail_cons, List.nil_append, List.cons_append] at hs; refine W_norm rfl ?_)
        )
      )
      | (refine K_code ?_; first
        | refine W_seq ?_
        | refine W_ops ?_
        | refine W_cond_f rfl ?_
        | refine W_skip ?_
        | refine W_ret ?_
      )
      | refine seqK_n ?_
      | (refine fnK_r rfl ?_; try dsimp only [gd_z, gd_s]))
    rename_i ha
    exact ⟨_, rfl, _, _, rfl, ha, hs⟩
  · refine W_enter d18 ?_
    show W _ (.code m18_code [.sc (.slice id off L.length cap), undefA, undefA, undefA, undefA, undefA, undefA, undefA] _) _
    unfold m18_code
    repeat' (first
      | (refine K_ops ?_; first
        | refine W_fastB rfl ?_
        | refine W_nil ?_
        | (refine K_bin ?_; first
          | (refine W_nilSl_f rfl rfl rfl ?_; refine W_norm rfl ?_)
        )
        | (refine K_bslice ?_; first
          | (refine W_buildS0 svEl hs ?_; clear hs; intro _ _ _ _ hs; try simp only [cell_back, attr_back, List.set_cons_zero, List.set_cons_succ, List.eraseIdx_cons_succ, List.eraseIdx_zero, List.tail_cons, List.nil_append, List.cons_append] at hs; refine W_norm rfl ?_)
        )
        | (refine K_append ?_; first
          | (refine W_appS hs 0 rfl rfl (by assumption) rfl (by first | assumption | exact SlR.now hs (by assumption) | exact AccS.now (by assumption) hs (by simp) | exact OwnS.now (by assumption) hs (by simp)) rfl ⟨by decide, (by first | omega | (simp only [List.length_set, List.length_append, List.length_take, List.length_drop, List.length_replicate, List.length_cons, List.length_nil, decs_length, List.length_map]; omega))⟩ ?_; clear hs; intro _ _ _ _ hs; try simp only [cell_back, attr_back, List.set_cons_zero, List.set_cons_succ, List.eraseIdx_cons_succ, List.eraseIdx_zero, List.tail_cons, List.nil_append, List.cons_append] at hs; refine W_norm rfl ?_)
        )
      )
      | (refine K_code ?_; first
        | refine W_seq ?_
        | refine W_ops ?_
        | refine W_cond_f rfl ?_
        | refine W_skip ?_
        | refine W_ret ?_
      )
      | refine seqK_n ?_
      | (refine fnK_r rfl ?_; try dsimp only [gd_z, gd_s]))
    rename_i ha
    exact ⟨_, rfl, _, _, rfl, ha, hs⟩


/-- Is there a region, and something to move? -/
def moves (m : Nat) (t b n : Int) : Prop := 0 ≤ t ∧ t ≤ b ∧ b < m ∧ 1 ≤ n
instance (m : Nat) (t b n : Int) : Decidable (moves m t b n) := by unfold moves; infer_instance
def many (t b n : Int) : Nat := (min n (b - t + 1)).toNat
def upRows {β : Type} (rows : List β) (t b n : Int) (F : List β) : List β := if moves rows.length t b n then upOut rows F t.toNat (many t b n) ((b - t + 1).toNat - many t b n) else rows
def upGone {β : Type} (rows : List β) (t b n : Int) : List β := if moves rows.length t b n then (rows.drop t.toNat).take (many t b n) else []
def downRows {β : Type} (rows : List β) (t b n : Int) (F : List β) : List β := if moves rows.length t b n then downOut rows F t.toNat (many t b n) ((b - t + 1).toNat - many t b n) else rows
def downGone {β : Type} (rows : List β) (t b n : Int) : List β := if moves rows.length t b n then (rows.drop ((b + 1).toNat - many t b n)).take (many t b n) else []


theorem w9 {v : SV} {G : List (SV × List Cell)} {h : Heap} {t b n w : Int} (a : Attr) (hv : NsR cellE (Now h) v G) (hl : G.length ≤ 1000) (hl2 : ∀ g ∈ G, g.2.length ≤ 100000) :
    Wc DD 9 [.sc v, i64 t, i64 b, i64 n, i64 w, .agg (attrE.enc a)] h fun x h' => ∃ u g c cg H Hg, x = .tup [.sc u, .sc g] ∧ NsO cellE 40 38 u H c ∧ NsO cellE 40 38 g Hg cg ∧
      H.map Hd.L = upRows (G.map Prod.snd) t b n (List.replicate (many t b n) (freshL w a)) ∧ Hg.map Hd.L = upGone (G.map Prod.snd) t b n ∧ Sep (Now h) [c, hpOf H, cg, hpOf Hg] h' := by
  have hs := Sep.entry h
  refine W_enter d9 ?_
  show W _ (.code m9_code [.sc v, i64 t, i64 b, i64 n, i64 w, .agg (attrE.enc a), undefA, undefA, undefA, undefA, undefA, undefA, undefA, undefA, undefA, undefA, undefA, undefA, undefA, undefA, undefA, undefA, undefA, undefA, undefA, undefA, undefA, undefA, undefA, undefA, undefA, undefA, undefA, undefA, undefA, undefA, undefA, undefA, undefA, undefA, undefA, undefA, undefA, undefA, undefA, undefA, undefA, undefA, undefA, undefA, undefA, undefA, undefA, undefA, undefA, undefA, undefA, undefA, undefA, undefA, undefA, undefA, undefA] _) _
  unfold m9_code
  repeat' (first
    | (refine K_ops ?_; first
      | refine W_fastB rfl ?_
      | refine W_nil ?_
      | (refine K_guard ?_; first
        | refine W_guard_on rfl ?_
        | refine W_guard_off rfl rfl (W_norm rfl ?_)
        | (refine W_guardF rfl (fun hc => ?_) (fun hc => ?_) <;> (try rw [hc]) <;> (try simp only [decide_eq_true_eq, decide_eq_false_iff_not, beq_iff_eq, beq_eq_false_iff_ne, bne_iff_ne, bne_eq_false_iff_eq, Bool.not_eq_true', Bool.not_eq_false', Int.not_lt, Int.not_le, ne_eq, reduceCtorEq, not_true_eq_false, not_false_eq_true, Decidable.not_not] at hc) <;> (try (exfalso; omega)) <;> (try refine W_norm rfl ?_))
      )
      | (refine K_call ?_; first
        | (refine W_callsN 16 rfl (w16 (NsR.now hs hv) (by omega) hl2) rfl ?_; rintro _ h2 ⟨u, c, A, rfl, hA, hAL, t'⟩; replace hs := hs.call t'; have hA1 := hA.1; try simp only [List.cons_append, List.nil_append] at hs; refine W_norm rfl ?_)
        | (refine W_callsN 17 rfl (w17 hv.ln) rfl ?_; rintro _ _ ⟨rfl, rfl⟩; refine W_norm rfl ?_)
      )
      | (refine K_bin ?_; first
        | (refine W_add rfl rfl (IntWalk.i64_in _ (by first | omega | (simp only [List.length_set, List.length_append, List.length_take, List.length_drop, List.length_replicate, List.length_cons, List.length_nil, decs_length, List.length_map]; omega))) ?_; refine W_norm rfl ?_)
        | (refine W_sub rfl rfl (IntWalk.i64_in _ (by first | omega | (simp only [List.length_set, List.length_append, List.length_take, List.length_drop, List.length_replicate, List.length_cons, List.length_nil, decs_length, List.length_map]; omega))) ?_; refine W_norm rfl ?_)
      )
      | (refine K_pick ?_; first
        | refine W_pick_t rfl rfl (W_norm rfl ?_)
        | refine W_pick_f rfl rfl (W_norm rfl ?_)
      )
      | (refine W_boxS hs rfl rfl ?_; clear hs; intro bx _ hs; try simp only [cell_back, attr_back, List.set_cons_zero, List.set_cons_succ, List.eraseIdx_cons_succ, List.eraseIdx_zero, List.tail_cons, List.nil_append, List.cons_append] at hs; refine W_norm rfl ?_)
      | (refine W_min2 rfl rfl ?_; refine W_norm rfl ?_)
    )
    | (refine K_code ?_; first
      | refine W_seq ?_
      | refine W_ops ?_
      | refine W_cond_t rfl ?_
      | (refine W_cond rfl (fun hc => ?_) (fun hc => ?_) <;> (try rw [hc]) <;> (try simp only [decide_eq_true_eq, decide_eq_false_iff_not, beq_iff_eq, beq_eq_false_iff_ne, bne_iff_ne, bne_eq_false_iff_eq, Bool.not_eq_true', Bool.not_eq_false', Int.not_lt, Int.not_le, ne_eq, reduceCtorEq, not_true_eq_false, not_false_eq_true, Decidable.not_not] at hc) <;> (try (exfalso; omega)) <;> (try refine W_norm rfl ?_))
      | refine W_skip ?_
      | refine W_ret ?_
    )
    | refine seqK_n ?_
    | refine seqK_r ?_
    | (refine fnK_r rfl ?_; try dsimp only [gd_z, gd_s]))
  · have e : ¬ moves (G.map Prod.snd).length t b n := by unfold moves; omega
    exact ⟨_, rfl, _, _, _, _, _, _, rfl, hA, NsO.nil _ _, by unfold upRows; rw [if_neg e]; exact hAL, by unfold upGone; rw [if_neg e]; rfl, (hs.drop 2).reord (fun a => by simp only [List.flatten_cons, List.flatten_nil, List.count_append, List.count_nil, hpOf_append, hpOf_cons, hpOf_nil, List.append_nil, List.eraseIdx_cons_succ, List.eraseIdx_zero, List.tail_cons] <;> omega)⟩
  · obtain ⟨T, rfl⟩ := Int.eq_ofNat_of_zero_le (show 0 ≤ t by omega)
    obtain ⟨B, rfl⟩ := Int.eq_ofNat_of_zero_le (show 0 ≤ b by omega)
    have hmv : moves (G.map Prod.snd).length T B n := by rw [List.length_map]; unfold moves; omega
    have hmany : many T B n = (min n ((B : Int) - T + 1)).toNat := rfl
    have hAl : A.length = G.length := by
      have := congrArg List.length hAL
      simpa using this
    have hk1 : 1 ≤ min n ((B : Int) - T + 1) ∧ min n ((B : Int) - T + 1) ≤ B - T + 1 := by omega
    generalize min n ((B : Int) - T + 1) = kk at *
    obtain ⟨K, rfl⟩ := Int.eq_ofNat_of_zero_le (show 0 ≤ kk by omega)
    rw [Int.toNat_natCast] at hmany
    obtain ⟨id, kd, rfl, rfl, hkd⟩ := hA1.pos (by rw [List.length_map]; omega)
    repeat' (first
      | (refine K_ops ?_; first
        | refine W_fastB rfl ?_
        | refine W_nil ?_
        | (refine K_call ?_; first
          | (refine W_callsN 18 rfl (w18 (VwO.sl (by assumption) (hs.at1 0 rfl) (by rw [List.length_map]; omega)) (by simp only [List.length_take, List.length_drop, List.length_map]; omega)) rfl ?_; rintro _ h2 ⟨g, cg, rfl, hg, t'⟩; replace hs := hs.call t'; try simp only [List.cons_append, List.nil_append] at hs; refine W_norm rfl ?_)
          | (refine W_callsN 19 rfl (w19 a (by omega)) rfl ?_; rintro _ h2 ⟨f, cf, F, rfl, hF, hFL, t'⟩; replace hs := hs.call t'; have hF1 := hF.1; try simp only [List.cons_append, List.nil_append] at hs; refine W_norm rfl ?_)
        )
        | (refine K_bin ?_; first
          | (refine W_add rfl rfl (IntWalk.i64_in _ (by first | omega | (simp only [List.length_set, List.length_append, List.length_take, List.length_drop, List.length_replicate, List.length_cons, List.length_nil, decs_length, List.length_map]; omega))) ?_; refine W_norm rfl ?_)
          | (refine W_sub rfl rfl (IntWalk.i64_in _ (by first | omega | (simp only [List.length_set, List.length_append, List.length_take, List.length_drop, List.length_replicate, List.length_cons, List.length_nil, decs_length, List.length_map]; omega))) ?_; refine W_norm rfl ?_)
        )
        | (refine K_load ?_; first
          | (refine W_loadCA hs 3 rfl rfl rfl ?_; refine W_norm rfl ?_)
        )
        | (refine K_slice ?_; first
          | (refine W_sliceO0 rfl rfl rfl (by first | omega | (simp only [List.length_set, List.length_append, List.length_take, List.length_drop, List.length_replicate, List.length_cons, List.length_nil, decs_length, List.length_map]; omega)) ⟨(by first | omega | (simp only [List.length_set, List.length_append, List.length_take, List.length_drop, List.length_replicate, List.length_cons, List.length_nil, decs_length, List.length_map]; omega)), (by first | omega | (simp only [List.length_set, List.length_append, List.length_take, List.length_drop, List.length_replicate, List.length_cons, List.length_nil, decs_length, List.length_map]; omega)), (by first | omega | (simp only [List.length_set, List.length_append, List.length_take, List.length_drop, List.length_replicate, List.length_cons, List.length_nil, decs_length, List.length_map]; omega))⟩ ?_; intro _ _; refine W_norm rfl ?_)
          | (refine W_sliceO0From rfl rfl (by first | omega | (simp only [List.length_set, List.length_append, List.length_take, List.length_drop, List.length_replicate, List.length_cons, List.length_nil, decs_length, List.length_map]; omega)) ⟨(by first | omega | (simp only [List.length_set, List.length_append, List.length_take, List.length_drop, List.length_replicate, List.length_cons, List.length_nil, decs_length, List.length_map]; omega)), (by first | omega | (simp only [List.length_set, List.length_append, List.length_take, List.length_drop, List.length_replicate, List.length_cons, List.length_nil, decs_length, List.length_map]; omega))⟩ ?_; intro _ _; refine W_norm rfl ?_)
        )
        | (refine K_copy ?_; first
          | (refine W_copyV hs 1 rfl rfl (by first | assumption | exact VwO.whole) rfl (by first | decide | assumption) rfl (by first | omega | (simp only [List.length_set, List.length_append, List.length_take, List.length_drop, List.length_replicate, List.length_cons, List.length_nil, decs_length, List.length_map]; omega)) (by first | exact VwO.sl (by assumption) (hs.at1 1 rfl) (by first | omega | (simp only [List.length_set, List.length_append, List.length_take, List.length_drop, List.length_replicate, List.length_cons, List.length_nil, decs_length, List.length_map]; omega)) | exact VwO.sl (by assumption) (hs.at1 0 rfl) (by first | omega | (simp only [List.length_set, List.length_append, List.length_take, List.length_drop, List.length_replicate, List.length_cons, List.length_nil, decs_length, List.length_map]; omega)) | exact VwO.sl (by assumption) (hs.at1 2 rfl) (by first | omega | (simp only [List.length_set, List.length_append, List.length_take, List.length_drop, List.length_replicate, List.length_cons, List.length_nil, decs_length, List.length_map]; omega)) | exact VwO.sl (by assumption) (hs.at1 3 rfl) (by first | omega | (simp only [List.length_set, List.length_append, List.length_take, List.length_drop, List.length_replicate, List.length_cons, List.length_nil, decs_length, List.length_map]; omega)) | exact VwO.sl (by assumption) (hs.at1 4 rfl) (by first | omega | (simp only [List.length_set, List.length_append, List.length_take, List.length_drop, List.length_replicate, List.length_cons, List.length_nil, decs_length, List.length_map]; omega)) | assumption | exact SlR.now hs (by assumption) | exact AccS.now (by assumption) hs (by simp) | exact OwnS.now (by assumption) hs (by simp)) ?_; clear hs; intro _ hs; try simp only [cell_back, attr_back, List.set_cons_zero, List.set_cons_succ, List.eraseIdx_cons_succ, List.eraseIdx_zero, List.tail_cons, List.nil_append, List.cons_append] at hs; refine W_norm rfl ?_)
          | (refine W_copyV hs 3 rfl rfl (by first | assumption | exact VwO.whole) rfl (by first | decide | assumption) rfl (by first | omega | (simp only [List.length_set, List.length_append, List.length_take, List.length_drop, List.length_replicate, List.length_cons, List.length_nil, decs_length, List.length_map]; omega)) (by first | exact VwO.sl (by assumption) (hs.at1 3 rfl) (by first | omega | (simp only [List.length_set, List.length_append, List.length_take, List.length_drop, List.length_replicate, List.length_cons, List.length_nil, decs_length, List.length_map]; omega)) | exact VwO.sl (by assumption) (hs.at1 0 rfl) (by first | omega | (simp only [List.length_set, List.length_append, List.length_take, List.length_drop, List.length_replicate, List.length_cons, List.length_nil, decs_length, List.length_map]; omega)) | exact VwO.sl (by assumption) (hs.at1 1 rfl) (by first | omega | (simp only [List.length_set, List.length_append, List.length_take, List.length_drop, List.length_replicate, List.length_cons, List.length_nil, decs_length, List.length_map]; omega)) | exact VwO.sl (by assumption) (hs.at1 2 rfl) (by first | omega | (simp only [List.length_set, List.length_append, List.length_take, List.length_drop, List.length_replicate, List.length_cons, List.length_nil, decs_length, List.length_map]; omega)) | exact VwO.sl (by assumption) (hs.at1 4 rfl) (by first | omega | (simp only [List.length_set, List.length_append, List.length_take, List.length_drop, List.length_replicate, List.length_cons, List.length_nil, decs_length, List.length_map]; omega)) | assumption | exact SlR.now hs (by assumption) | exact AccS.now (by assumption) hs (by simp) | exact OwnS.now (by assumption) hs (by simp)) ?_; clear hs; intro _ hs; try simp only [cell_back, attr_back, List.set_cons_zero, List.set_cons_succ, List.eraseIdx_cons_succ, List.eraseIdx_zero, List.tail_cons, List.nil_append, List.cons_append] at hs; refine W_norm rfl ?_)
        )
      )
      | (refine K_code ?_; first
        | refine W_seq ?_
        | refine W_ops ?_
        | refine W_ret ?_
        | refine W_draw rfl ?_
      )
      | refine seqK_n ?_
      | (refine fnK_r rfl ?_; try dsimp only [gd_z, gd_s]))
    obtain ⟨q, hq⟩ : ∃ q, B + 1 = T + K + q := ⟨B + 1 - T - K, by omega⟩
    have n1 : ((T : Int) + (K : Int)).toNat = T + K := by omega
    have n2 : ((B : Int) + 1 - (K : Int)).toNat = T + q := by omega
    have n3 : ((B : Int) + 1).toNat = T + K + q := by omega
    simp only [Int.toNat_natCast, n1, n2, n3, show T + K - T = K by omega, show T + K + q - (T + K) = q by omega, show T + K + q - (T + q) = K by omega] at hs hg hFL
    have hFl : F.length = K := by
      have := congrArg List.length hFL
      simpa using this
    have hAm : T + K + q ≤ A.length := by omega
    rw [up_eq (V := A.map Hd.v) (F := F.map Hd.v) (t := T) (k := K) (q := q) (by rw [List.length_map]; exact hAm) (by rw [List.length_map]; exact hFl), ← upOut_map] at hs
    have hq2 : ((B : Int) - (T : Int) + 1).toNat - K = q := by omega
    have hp : hpOf A = hpOf (A.take T) ++ hpOf ((A.drop T).take K) ++ hpOf ((A.drop (T + K)).take q) ++ hpOf (A.drop (T + K + q)) := by
      simp only [← hpOf_append]
      congr 1
      exact split4 hAm
    refine ⟨_, rfl, _, _, _, _, upOut A F T K q, ((A.drop T).take K), rfl, ⟨AccS.again hkd ?_, ?_⟩, ⟨by rw [List.map_take, List.map_drop]; exact hg, fun r hr => hA.2 r (List.mem_of_mem_drop (List.mem_of_mem_take hr))⟩, ?_, ?_, hs.some (cf ++ [(bx, .cells 28 .own (attrE.enc a))]) (fun x => by simp only [List.flatten_cons, List.flatten_nil, List.count_append, List.count_nil, List.append_nil, upOut, hpOf_append, hp] <;> omega)⟩
    · rw [List.length_map, List.length_map]; unfold upOut; simp only [List.length_append, List.length_take, List.length_drop]; omega
    · intro r hr
      unfold upOut at hr
      simp only [List.mem_append] at hr
      rcases hr with ((hr | hr) | hr) | hr
      · exact hA.2 r (List.mem_of_mem_take hr)
      · exact hA.2 r (List.mem_of_mem_drop (List.mem_of_mem_take hr))
      · exact hF.2 r hr
      · exact hA.2 r (List.mem_of_mem_drop hr)
    · unfold upRows
      rw [if_pos hmv, upOut_map, hAL, hFL, hmany, hq2]; rfl
    · unfold upGone
      rw [if_pos hmv, hmany, ← hAL, List.map_take, List.map_drop]; rfl
  · have e : ¬ moves (G.map Prod.snd).length t b n := by rw [List.length_map]; unfold moves; omega
    exact ⟨_, rfl, _, _, _, _, _, _, rfl, hA, NsO.nil _ _, by unfold upRows; rw [if_neg e]; exact hAL, by unfold upGone; rw [if_neg e]; rfl, (hs.drop 2).reord (fun a => by simp only [List.flatten_cons, List.flatten_nil, List.count_append, List.count_nil, hpOf_append, hpOf_cons, hpOf_nil, List.append_nil, List.eraseIdx_cons_succ, List.eraseIdx_zero, List.tail_cons] <;> omega)⟩


theorem w8 {v : SV} {G : List (SV × List Cell)} {h : Heap} {t b n w : Int} (a : Attr) (hv : NsR cellE (Now h) v G) (hl : G.length ≤ 1000) (hl2 : ∀ g ∈ G, g.2.length ≤ 100000) :
    Wc DD 8 [.sc v, i64 t, i64 b, i64 n, i64 w, .agg (attrE.enc a)] h fun x h' => ∃ u g c cg H Hg, x = .tup [.sc u, .sc g] ∧ NsO cellE 40 38 u H c ∧ NsO cellE 40 38 g Hg cg ∧
      H.map Hd.L = downRows (G.map Prod.snd) t b n (List.replicate (many t b n) (freshL w a)) ∧ Hg.map Hd.L = downGone (G.map Prod.snd) t b n ∧ Sep (Now h) [c, hpOf H, cg, hpOf Hg] h' := by
  have hs := Sep.entry h
  refine W_enter d8 ?_
  show W _ (.code m8_code [.sc v, i64 t, i64 b, i64 n, i64 w, .agg (attrE.enc a), undefA, undefA, undefA, undefA, undefA, undefA, undefA, undefA, undefA, undefA, undefA, undefA, undefA, undefA, undefA, undefA, undefA, undefA, undefA, undefA, undefA, undefA, undefA, undefA, undefA, undefA, undefA, undefA, undefA, undefA, undefA, undefA, undefA, undefA, undefA, undefA, undefA, undefA, undefA, undefA, undefA, undefA, undefA, undefA, undefA, undefA, undefA, undefA, undefA, undefA, undefA, undefA, undefA, undefA, undefA, undefA] _) _
  unfold m8_code
  repeat' (first
    | (refine K_ops ?_; first
      | refine W_fastB rfl ?_
      | refine W_nil ?_
      | (refine K_guard ?_; first
        | refine W_guard_on rfl ?_
        | refine W_guard_off rfl rfl (W_norm rfl ?_)
        | (refine W_guardF rfl (fun hc => ?_) (fun hc => ?_) <;> (try rw [hc]) <;> (try simp only [decide_eq_true_eq, decide_eq_false_iff_not, beq_iff_eq, beq_eq_false_iff_ne, bne_iff_ne, bne_eq_false_iff_eq, Bool.not_eq_true', Bool.not_eq_false', Int.not_lt, Int.not_le, ne_eq, reduceCtorEq, not_true_eq_false, not_false_eq_true, Decidable.not_not] at hc) <;> (try (exfalso; omega)) <;> (try refine W_norm rfl ?_))
      )
      | (refine K_call ?_; first
        | (refine W_callsN 16 rfl (w16 (NsR.now hs hv) (by omega) hl2) rfl ?_; rintro _ h2 ⟨u, c, A, rfl, hA, hAL, t'⟩; replace hs := hs.call t'; have hA1 := hA.1; try simp only [List.cons_append, List.nil_append] at hs; refine W_norm rfl ?_)
        | (refine W_callsN 17 rfl (w17 hv.ln) rfl ?_; rintro _ _ ⟨rfl, rfl⟩; refine W_norm rfl ?_)
      )
      | (refine K_bin ?_; first
        | (refine W_add rfl rfl (IntWalk.i64_in _ (by first | omega | (simp only [List.length_set, List.length_append, List.length_take, List.length_drop, List.length_replicate, List.length_cons, List.length_nil, decs_length, List.length_map]; omega))) ?_; refine W_norm rfl ?_)
        | (refine W_sub rfl rfl (IntWalk.i64_in _ (by first | omega | (simp only [List.length_set, List.length_append, List.length_take, List.length_drop, List.length_replicate, List.length_cons, List.length_nil, decs_length, List.length_map]; omega))) ?_; refine W_norm rfl ?_)
      )
      | (refine K_pick ?_; first
        | refine W_pick_t rfl rfl (W_norm rfl ?_)
        | refine W_pick_f rfl rfl (W_norm rfl ?_)
      )
      | (refine W_boxS hs rfl rfl ?_; clear hs; intro bx _ hs; try simp only [cell_back, attr_back, List.set_cons_zero, List.set_cons_succ, List.eraseIdx_cons_succ, List.eraseIdx_zero, List.tail_cons, List.nil_append, List.cons_append] at hs; refine W_norm rfl ?_)
      | (refine W_min2 rfl rfl ?_; refine W_norm rfl ?_)
    )
    | (refine K_code ?_; first
      | refine W_seq ?_
      | refine W_ops ?_
      | refine W_cond_t rfl ?_
      | (refine W_cond rfl (fun hc => ?_) (fun hc => ?_) <;> (try rw [hc]) <;> (try simp only [decide_eq_true_eq, decide_eq_false_iff_not, beq_iff_eq, beq_eq_false_iff_ne, bne_iff_ne, bne_eq_false_iff_eq, Bool.not_eq_true', Bool.not_eq_false', Int.not_lt, Int.not_le, ne_eq, reduceCtorEq, not_true_eq_false, not_false_eq_true, Decidable.not_not] at hc) <;> (try (exfalso; omega)) <;> (try refine W_norm rfl ?_))
      | refine W_skip ?_
      | refine W_ret ?_
    )
    | refine seqK_n ?_
    | refine seqK_r ?_
    | (refine fnK_r rfl ?_; try dsimp only [gd_z, gd_s]))
  · have e : ¬ moves (G.map Prod.snd).length t b n := by unfold moves; omega
    exact ⟨_, rfl, _, _, _, _, _, _, rfl, hA, NsO.nil _ _, by unfold downRows; rw [if_neg e]; exact hAL, by unfold downGone; rw [if_neg e]; rfl, (hs.drop 2).reord (fun a => by simp only [List.flatten_cons, List.flatten_nil, List.count_append, List.count_nil, hpOf_append, hpOf_cons, hpOf_nil, List.append_nil, List.eraseIdx_cons_succ, List.eraseIdx_zero, List.tail_cons] <;> omega)⟩
  · obtain ⟨T, rfl⟩ := Int.eq_ofNat_of_zero_le (show 0 ≤ t by omega)
    obtain ⟨B, rfl⟩ := Int.eq_ofNat_of_zero_le (show 0 ≤ b by omega)
    have hmv : moves (G.map Prod.snd).length T B n := by rw [List.length_map]; unfold moves; omega
    have hmany : many T B n = (min n ((B : Int) - T + 1)).toNat := rfl
    have hAl : A.length = G.length := by
      have := congrArg List.length hAL
      simpa using this
    have hk1 : 1 ≤ min n ((B : Int) - T + 1) ∧ min n ((B : Int) - T + 1) ≤ B - T + 1 := by omega
    generalize min n ((B : Int) - T + 1) = kk at *
    obtain ⟨K, rfl⟩ := Int.eq_ofNat_of_zero_le (show 0 ≤ kk by omega)
    rw [Int.toNat_natCast] at hmany
    obtain ⟨id, kd, rfl, rfl, hkd⟩ := hA1.pos (by rw [List.length_map]; omega)
    repeat' (first
      | (refine K_ops ?_; first
        | refine W_fastB rfl ?_
        | refine W_nil ?_
        | (refine K_call ?_; first
          | (refine W_callsN 18 rfl (w18 (VwO.sl (by assumption) (hs.at1 0 rfl) (by rw [List.length_map]; omega)) (by simp only [List.length_take, List.length_drop, List.length_map]; omega)) rfl ?_; rintro _ h2 ⟨g, cg, rfl, hg, t'⟩; replace hs := hs.call t'; try simp only [List.cons_append, List.nil_append] at hs; refine W_norm rfl ?_)
          | (refine W_callsN 19 rfl (w19 a (by omega)) rfl ?_; rintro _ h2 ⟨f, cf, F, rfl, hF, hFL, t'⟩; replace hs := hs.call t'; have hF1 := hF.1; try simp only [List.cons_append, List.nil_append] at hs; refine W_norm rfl ?_)
        )
        | (refine K_bin ?_; first
          | (refine W_add rfl rfl (IntWalk.i64_in _ (by first | omega | (simp only [List.length_set, List.length_append, List.length_take, List.length_drop, List.length_replicate, List.length_cons, List.length_nil, decs_length, List.length_map]; omega))) ?_; refine W_norm rfl ?_)
        )
        | (refine K_load ?_; first
          | (refine W_loadCA hs 3 rfl rfl rfl ?_; refine W_norm rfl ?_)
        )
        | (refine K_slice ?_; first
          | (refine W_sliceO0 rfl rfl rfl (by first | omega | (simp only [List.length_set, List.length_append, List.length_take, List.length_drop, List.length_replicate, List.length_cons, List.length_nil, decs_length, List.length_map]; omega)) ⟨(by first | omega | (simp only [List.length_set, List.length_append, List.length_take, List.length_drop, List.length_replicate, List.length_cons, List.length_nil, decs_length, List.length_map]; omega)), (by first | omega | (simp only [List.length_set, List.length_append, List.length_take, List.length_drop, List.length_replicate, List.length_cons, List.length_nil, decs_length, List.length_map]; omega)), (by first | omega | (simp only [List.length_set, List.length_append, List.length_take, List.length_drop, List.length_replicate, List.length_cons, List.length_nil, decs_length, List.length_map]; omega))⟩ ?_; intro _ _; refine W_norm rfl ?_)
          | (refine W_sliceO0From rfl rfl (by first | omega | (simp only [List.length_set, List.length_append, List.length_take, List.length_drop, List.length_replicate, List.length_cons, List.length_nil, decs_length, List.length_map]; omega)) ⟨(by first | omega | (simp only [List.length_set, List.length_append, List.length_take, List.length_drop, List.length_replicate, List.length_cons, List.length_nil, decs_length, List.length_map]; omega)), (by first | omega | (simp only [List.length_set, List.length_append, List.length_take, List.length_drop, List.length_replicate, List.length_cons, List.length_nil, decs_length, List.length_map]; omega))⟩ ?_; intro _ _; refine W_norm rfl ?_)
        )
        | (refine K_copy ?_; first
          | (refine W_copyV hs 1 rfl rfl (by first | assumption | exact VwO.whole) rfl (by first | decide | assumption) rfl (by first | omega | (simp only [List.length_set, List.length_append, List.length_take, List.length_drop, List.length_replicate, List.length_cons, List.length_nil, decs_length, List.length_map]; omega)) (by first | exact VwO.sl (by assumption) (hs.at1 1 rfl) (by first | omega | (simp only [List.length_set, List.length_append, List.length_take, List.length_drop, List.length_replicate, List.length_cons, List.length_nil, decs_length, List.length_map]; omega)) | exact VwO.sl (by assumption) (hs.at1 0 rfl) (by first | omega | (simp only [List.length_set, List.length_append, List.length_take, List.length_drop, List.length_replicate, List.length_cons, List.length_nil, decs_length, List.length_map]; omega)) | exact VwO.sl (by assumption) (hs.at1 2 rfl) (by first | omega | (simp only [List.length_set, List.length_append, List.length_take, List.length_drop, List.length_replicate, List.length_cons, List.length_nil, decs_length, List.length_map]; omega)) | exact VwO.sl (by assumption) (hs.at1 3 rfl) (by first | omega | (simp only [List.length_set, List.length_append, List.length_take, List.length_drop, List.length_replicate, List.length_cons, List.length_nil, decs_length, List.length_map]; omega)) | exact VwO.sl (by assumption) (hs.at1 4 rfl) (by first | omega | (simp only [List.length_set, List.length_append, List.length_take, List.length_drop, List.length_replicate, List.length_cons, List.length_nil, decs_length, List.length_map]; omega)) | assumption | exact SlR.now hs (by assumption) | exact AccS.now (by assumption) hs (by simp) | exact OwnS.now (by assumption) hs (by simp)) ?_; clear hs; intro _ hs; try simp only [cell_back, attr_back, List.set_cons_zero, List.set_cons_succ, List.eraseIdx_cons_succ, List.eraseIdx_zero, List.tail_cons, List.nil_append, List.cons_append] at hs; refine W_norm rfl ?_)
          | (refine W_copyV hs 3 rfl rfl (by first | assumption | exact VwO.whole) rfl (by first | decide | assumption) rfl (by first | omega | (simp only [List.length_set, List.length_append, List.length_take, List.length_drop, List.length_replicate, List.length_cons, List.length_nil, decs_length, List.length_map]; omega)) (by first | exact VwO.sl (by assumption) (hs.at1 3 rfl) (by first | omega | (simp only [List.length_set, List.length_append, List.length_take, List.length_drop, List.length_replicate, List.length_cons, List.length_nil, decs_length, List.length_map]; omega)) | exact VwO.sl (by assumption) (hs.at1 0 rfl) (by first | omega | (simp only [List.length_set, List.length_append, List.length_take, List.length_drop, List.length_replicate, List.length_cons, List.length_nil, decs_length, List.length_map]; omega)) | exact VwO.sl (by assumption) (hs.at1 1 rfl) (by first | omega | (simp only [List.length_set, List.length_append, List.length_take, List.length_drop, List.length_replicate, List.length_cons, List.length_nil, decs_length, List.length_map]; omega)) | exact VwO.sl (by assumption) (hs.at1 2 rfl) (by first | omega | (simp only [List.length_set, List.length_append, List.length_take, List.length_drop, List.length_replicate, List.length_cons, List.length_nil, decs_length, List.length_map]; omega)) | exact VwO.sl (by assumption) (hs.at1 4 rfl) (by first | omega | (simp only [List.length_set, List.length_append, List.length_take, List.length_drop, List.length_replicate, List.length_cons, List.length_nil, decs_length, List.length_map]; omega)) | assumption | exact SlR.now hs (by assumption) | exact AccS.now (by assumption) hs (by simp) | exact OwnS.now (by assumption) hs (by simp)) ?_; clear hs; intro _ hs; try simp only [cell_back, attr_back, List.set_cons_zero, List.set_cons_succ, List.eraseIdx_cons_succ, List.eraseIdx_zero, List.tail_cons, List.nil_append, List.cons_append] at hs; refine W_norm rfl ?_)
        )
      )
      | (refine K_code ?_; first
        | refine W_seq ?_
        | refine W_ops ?_
        | refine W_ret ?_
        | refine W_draw rfl ?_
      )
      | refine seqK_n ?_
      | (refine fnK_r rfl ?_; try dsimp only [gd_z, gd_s]))
    obtain ⟨q, hq⟩ : ∃ q, B + 1 = T + K + q := ⟨B + 1 - T - K, by omega⟩
    have n1 : ((T : Int) + (K : Int)).toNat = T + K := by omega
    have n2 : ((B : Int) + 1 - (K : Int)).toNat = T + q := by omega
    have n3 : ((B : Int) + 1).toNat = T + K + q := by omega
    simp only [Int.toNat_natCast, n1, n2, n3, show T + K - T = K by omega, show T + K + q - (T + K) = q by omega, show T + K + q - (T + q) = K by omega] at hs hg hFL
    have hFl : F.length = K := by
      have := congrArg List.length hFL
      simpa using this
    have hAm : T + K + q ≤ A.length := by omega
    rw [down_eq (V := A.map Hd.v) (F := F.map Hd.v) (t := T) (k := K) (q := q) (by rw [List.length_map]; exact hAm) (by rw [List.length_map]; exact hFl), ← downOut_map] at hs
    have hq2 : ((B : Int) - (T : Int) + 1).toNat - K = q := by omega
    have hp : hpOf A = hpOf (A.take T) ++ hpOf ((A.drop T).take q) ++ hpOf ((A.drop (T + q)).take K) ++ hpOf (A.drop (T + K + q)) := by
      simp only [← hpOf_append]
      congr 1
      rw [show T + K + q = T + q + K by omega]; exact split4 (by omega)
    refine ⟨_, rfl, _, _, _, _, downOut A F T K q, ((A.drop (T + q)).take K), rfl, ⟨AccS.again hkd ?_, ?_⟩, ⟨by rw [List.map_take, List.map_drop]; exact hg, fun r hr => hA.2 r (List.mem_of_mem_drop (List.mem_of_mem_take hr))⟩, ?_, ?_, hs.some (cf ++ [(bx, .cells 28 .own (attrE.enc a))]) (fun x => by simp only [List.flatten_cons, List.flatten_nil, List.count_append, List.count_nil, List.append_nil, downOut, hpOf_append, hp] <;> omega)⟩
    · rw [List.length_map, List.length_map]; unfold downOut; simp only [List.length_append, List.length_take, List.length_drop]; omega
    · intro r hr
      unfold downOut at hr
      simp only [List.mem_append] at hr
      rcases hr with ((hr | hr) | hr) | hr
      · exact hA.2 r (List.mem_of_mem_take hr)
      · exact hF.2 r hr
      · exact hA.2 r (List.mem_of_mem_drop (List.mem_of_mem_take hr))
      · exact hA.2 r (List.mem_of_mem_drop hr)
    · unfold downRows
      rw [if_pos hmv, downOut_map, hAL, hFL, hmany, hq2]; rfl
    · unfold downGone
      rw [if_pos hmv, hmany, ← hAL, List.map_take, List.map_drop, show ((B : Int) + 1).toNat - K = T + q by omega]
  · have e : ¬ moves (G.map Prod.snd).length t b n := by rw [List.length_map]; unfold moves; omega
    exact ⟨_, rfl, _, _, _, _, _, _, rfl, hA, NsO.nil _ _, by unfold downRows; rw [if_neg e]; exact hAL, by unfold downGone; rw [if_neg e]; rfl, (hs.drop 2).reord (fun a => by simp only [List.flatten_cons, List.flatten_nil, List.count_append, List.count_nil, hpOf_append, hpOf_cons, hpOf_nil, List.append_nil, List.eraseIdx_cons_succ, List.eraseIdx_zero, List.tail_cons] <;> omega)⟩

end Go.Proofs.YtkmhbkanbbcgnaaDoor
