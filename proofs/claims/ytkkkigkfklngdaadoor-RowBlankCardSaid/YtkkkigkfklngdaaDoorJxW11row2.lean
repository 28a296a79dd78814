/- Rows: the calls of the package row that make rows. -/
import Derived.Test.YtkkkigkfklngdaaDoorJxW11row
set_option linter.unusedSimpArgs false
set_option linter.unusedVariables false
set_option maxHeartbeats 1000000
set_option maxRecDepth 100000
namespace Go.Proofs.YtkkkigkfklngdaaDoor
open Go Go.Jx

theorem partL_get (L : List Cell) (x : Int) (i : Nat) : (partL L x)[i]? = if 0 < x ∧ x < L.length ∧ (L.getD x.toNat cell0).w = 2 ∧ (i = x.toNat ∨ i = (x - 1).toNat) then (L[i]?).map (fun c => blankC c.a) else L[i]? := by
  unfold partL
  split
  · rename_i h
    rw [List.getElem?_set, List.getElem?_set]
    by_cases h1 : i = x.toNat
    · subst h1
      rw [if_pos rfl, if_pos (by rw [List.length_set]; omega), if_pos ⟨h.1, h.2.1, h.2.2, .inl rfl⟩, List.getD_eq_getElem?_getD, List.getElem?_eq_getElem (by omega)]; rfl
    · rw [if_neg (by omega)]
      by_cases h2 : i = (x - 1).toNat
      · subst h2
        rw [if_pos rfl, if_pos (by omega), if_pos ⟨h.1, h.2.1, h.2.2, .inr rfl⟩, List.getD_eq_getElem?_getD, List.getElem?_eq_getElem (by omega)]; rfl
      · rw [if_neg (by omega), if_neg (by omega)]
  · rename_i h
    rw [if_neg (by rintro ⟨a, b, c, _⟩; exact h ⟨a, b, c⟩)]

def insertL (L : List Cell) (x n : Int) (a : Attr) : List Cell :=
  if roomL L.length x n = 0 then L else
  let k := (roomL L.length x n).toNat
  let P := partL (partL L x) (L.length - roomL L.length x n)
  P.take x.toNat ++ List.replicate k (blankC a) ++ (P.drop x.toNat).take (L.length - k - x.toNat)
def deleteL (L : List Cell) (x n : Int) (a : Attr) : List Cell :=
  if roomL L.length x n = 0 then L else
  let k := (roomL L.length x n).toNat
  let P := partL (partL L x) (x + roomL L.length x n)
  P.take x.toNat ++ P.drop (x.toNat + k) ++ List.replicate k (blankC a)
def eraseL (L : List Cell) (x n : Int) (a : Attr) : List Cell :=
  if roomL L.length x n = 0 then L else
  let k := (roomL L.length x n).toNat
  let P := partL (partL L x) (x + roomL L.length x n)
  P.take x.toNat ++ List.replicate k (blankC a) ++ P.drop (x.toNat + k)
theorem roomL_spec (m : Nat) (x n : Int) : roomL m x n = 0 ∨ (0 ≤ x ∧ 1 ≤ roomL m x n ∧ x + roomL m x n ≤ m) := by
  unfold roomL
  split <;> omega
theorem insertL_length (L : List Cell) (x n : Int) (a : Attr) : (insertL L x n a).length = L.length := by
  unfold insertL
  split
  · rfl
  · have := roomL_spec L.length x n
    simp only [List.length_append, List.length_take, List.length_drop, List.length_replicate, partL_length]; omega
theorem deleteL_length (L : List Cell) (x n : Int) (a : Attr) : (deleteL L x n a).length = L.length := by
  unfold deleteL
  split
  · rfl
  · have := roomL_spec L.length x n
    simp only [List.length_append, List.length_take, List.length_drop, List.length_replicate, partL_length]; omega
theorem eraseL_length (L : List Cell) (x n : Int) (a : Attr) : (eraseL L x n a).length = L.length := by
  unfold eraseL
  split
  · rfl
  · have := roomL_spec L.length x n
    simp only [List.length_append, List.length_take, List.length_drop, List.length_replicate, partL_length]; omega

theorem ins_eq {α : Type} {P : List α} {x k : Nat} {b : α} (h : x + k ≤ P.length) : fillL (P.take (x + k) ++ ((P.drop x).take (P.length - k - x)).take (P.length - (x + k)) ++ P.drop ((x + k) + min ((P.drop x).take (P.length - k - x)).length (P.length - (x + k)))) x ((x + k) - x) b = P.take x ++ List.replicate k b ++ (P.drop x).take (P.length - k - x) := by
  have h1 : P.length - k - x = P.length - (x + k) := by omega
  rw [h1]
  have hS : ((P.drop x).take (P.length - (x + k))).length = P.length - (x + k) := by rw [List.length_take, List.length_drop]; omega
  generalize (P.drop x).take (P.length - (x + k)) = S at *
  rw [hS, Nat.min_self, List.drop_of_length_le (show P.length ≤ x + k + (P.length - (x + k)) by omega), List.append_nil, List.take_of_length_le (show S.length ≤ P.length - (x + k) by omega)]
  unfold fillL
  rw [show x + k - x = k by omega, List.take_append_of_le_length (by rw [List.length_take]; omega), List.take_take, Nat.min_eq_left (by omega)]
  congr 1
  exact List.drop_left' (by rw [List.length_take]; omega)
theorem del_eq {α : Type} {P : List α} {x k : Nat} {b : α} (h : x + k ≤ P.length) : fillL (P.take x ++ ((P.drop (x + k)).take (P.length - (x + k))).take (P.length - x) ++ P.drop (x + min ((P.drop (x + k)).take (P.length - (x + k))).length (P.length - x))) (P.length - k) (P.length - (P.length - k)) b = P.take x ++ P.drop (x + k) ++ List.replicate k b := by
  have hS : (P.drop (x + k)).length = P.length - (x + k) := List.length_drop
  have e : (P.drop (x + k)).take (P.length - (x + k)) = P.drop (x + k) := List.take_of_length_le (by omega)
  rw [e]
  generalize P.drop (x + k) = S at *
  rw [List.take_of_length_le (show S.length ≤ P.length - x by omega), hS, Nat.min_eq_left (by omega)]
  unfold fillL
  rw [show P.length - (P.length - k) = k by omega]
  rw [List.take_append_of_le_length (by rw [List.length_append, List.length_take]; omega), List.take_of_length_le (by rw [List.length_append, List.length_take]; omega)]
  rw [List.drop_of_length_le (by simp only [List.length_append, List.length_take, List.length_drop]; omega), List.append_nil]


theorem w17 {v : SV} {L : List Cell} {h : Heap} {x n : Int} (a : Attr) (hv : SlR cellE (Now h) v L) (hl : L.length ≤ 100000) (hx : -9223372036854775808 ≤ x ∧ x ≤ 9223372036854775807) :
    Wc DD 17 [.sc v, i64 x, i64 n, .agg (attrE.enc a)] h fun w h' => ∃ u c, w = .sc u ∧ AccS cellE 37 u (eraseL L x n a) c ∧ Sep (Now h) [c] h' := by
  have hs := Sep.entry h
  have hr := roomL_spec L.length x n
  refine W_enter d17 ?_
  show W _ (.code m17_code [.sc v, i64 x, i64 n, .agg (attrE.enc a), undefA, undefA, undefA, undefA, undefA, undefA, undefA, undefA, undefA, undefA, undefA, undefA, undefA, undefA, undefA, undefA, undefA, undefA, undefA, undefA, undefA, undefA, undefA, undefA, undefA, undefA, undefA, undefA, undefA, undefA, undefA] _) _
  unfold m17_code
  repeat' (first
    | (refine K_ops ?_; first
      | refine W_fastB rfl ?_
      | refine W_nil ?_
      | (refine K_call ?_; first
        | (refine W_callsN 27 rfl (w27 (SlR.now hs hv) hl) rfl ?_; rintro _ h2 ⟨u, c, rfl, ha, t⟩; replace hs := hs.call t; try simp only [cell_back, attr_back, List.set_cons_zero, List.set_cons_succ, List.eraseIdx_cons_succ, List.eraseIdx_zero, List.tail_cons, List.nil_append, List.cons_append] at hs; refine W_norm rfl ?_)
        | (refine W_callsN 28 rfl (w28 hv.ln hl) rfl ?_; rintro _ _ ⟨rfl, rfl⟩; refine W_norm rfl ?_)
        | (refine W_callsN 29 rfl (w29 hs ha (by (try simp only [partL_length]); exact hl)) rfl ?_; rintro _ h3 ⟨rfl, c, ha, hs⟩; refine W_norm rfl ?_)
      )
      | (refine K_bin ?_; first
        | (refine W_add rfl rfl (IntWalk.i64_in _ (by first | omega | (simp only [List.length_set, List.length_append, List.length_take, List.length_drop, List.length_replicate, List.length_cons, List.length_nil, decs_length, List.length_map]; omega))) ?_; refine W_norm rfl ?_)
      )
      | (refine W_boxS hs rfl rfl ?_; clear hs; intro bx _ hs; try simp only [cell_back, attr_back, List.set_cons_zero, List.set_cons_succ, List.eraseIdx_cons_succ, List.eraseIdx_zero, List.tail_cons, List.nil_append, List.cons_append] at hs; refine W_norm rfl ?_)
    )
    | (refine K_code ?_; first
      | refine W_seq ?_
      | refine W_ops ?_
      | (refine W_cond rfl (fun hc => ?_) (fun hc => ?_) <;> (try rw [hc]) <;> (try simp only [decide_eq_true_eq, decide_eq_false_iff_not, beq_iff_eq, beq_eq_false_iff_ne, bne_iff_ne, bne_eq_false_iff_eq, Bool.not_eq_true', Bool.not_eq_false', Int.not_lt, Int.not_le, ne_eq, reduceCtorEq, not_true_eq_false, not_false_eq_true, Decidable.not_not] at hc) <;> (try (exfalso; omega)) <;> (try refine W_norm rfl ?_))
      | refine W_skip ?_
      | refine W_ret ?_
      | refine W_draw rfl ?_
    )
    | refine seqK_n ?_
    | refine seqK_r ?_
    | (refine fnK_r rfl ?_; try dsimp only [gd_z, gd_s]))
  · refine ⟨_, rfl, _, _, rfl, ?_, hs.drop 1⟩
    unfold eraseL
    rw [if_pos hc]; exact ha
  · obtain ⟨id, kd, rfl, rfl, hk⟩ := ha.pos (by simp only [partL_length]; omega)
    have hlen : (partL (partL L x) (x + roomL L.length x n)).length = L.length := by simp only [partL_length]
    repeat' (first
      | (refine K_ops ?_; first
        | refine W_fastB rfl ?_
        | refine W_nil ?_
        | (refine K_call ?_; first
          | (refine W_callsN 23 rfl (w23 a hs (by assumption) (by rw [hlen]; omega) (by rw [hlen]; exact hl) hk) rfl ?_; rintro _ h3 ⟨rfl, hs⟩; refine W_norm rfl ?_)
        )
        | (refine K_load ?_; first
          | (refine W_loadCA hs 1 rfl rfl rfl ?_; refine W_norm rfl ?_)
        )
        | (refine K_slice ?_; first
          | (refine W_sliceO0 rfl rfl rfl (by first | omega | (simp only [List.length_set, List.length_append, List.length_take, List.length_drop, List.length_replicate, List.length_cons, List.length_nil, decs_length, List.length_map]; omega)) ⟨(by first | omega | (simp only [List.length_set, List.length_append, List.length_take, List.length_drop, List.length_replicate, List.length_cons, List.length_nil, decs_length, List.length_map]; omega)), (by first | omega | (simp only [List.length_set, List.length_append, List.length_take, List.length_drop, List.length_replicate, List.length_cons, List.length_nil, decs_length, List.length_map]; omega)), (by first | omega | (simp only [List.length_set, List.length_append, List.length_take, List.length_drop, List.length_replicate, List.length_cons, List.length_nil, decs_length, List.length_map]; omega))⟩ ?_; intro _ _; refine W_norm rfl ?_)
        )
      )
      | (refine K_code ?_; first
        | refine W_seq ?_
        | refine W_ops ?_
        | refine W_ret ?_
      )
      | refine seqK_n ?_
      | (refine fnK_r rfl ?_; try dsimp only [gd_z, gd_s]))
    have e : fillL (partL (partL L x) (x + roomL L.length x n)) x.toNat ((x + roomL L.length x n).toNat - x.toNat) (blankC a) = eraseL L x n a := by
      unfold eraseL fillL
      rw [if_neg hc, show (x + roomL L.length x n).toNat - x.toNat = (roomL L.length x n).toNat by omega]
    rw [e] at hs
    exact ⟨_, rfl, _, _, rfl, AccS.again hk (by rw [eraseL_length, hlen]), hs.drop 1⟩



theorem w16 {v : SV} {L : List Cell} {h : Heap} {x n : Int} (a : Attr) (hv : SlR cellE (Now h) v L) (hl : L.length ≤ 100000) :
    Wc DD 16 [.sc v, i64 x, i64 n, .agg (attrE.enc a)] h fun w h' => ∃ u c, w = .sc u ∧ AccS cellE 37 u (insertL L x n a) c ∧ Sep (Now h) [c] h' := by
  have hs := Sep.entry h
  have hr := roomL_spec L.length x n
  have hpl := partL_length L x
  refine W_enter d16 ?_
  show W _ (.code m16_code [.sc v, i64 x, i64 n, .agg (attrE.enc a), undefA, undefA, undefA, undefA, undefA, undefA, undefA, undefA, undefA, undefA, undefA, undefA, undefA, undefA, undefA, undefA, undefA, undefA, undefA, undefA, undefA, undefA, undefA, undefA, undefA, undefA, undefA, undefA, undefA, undefA, undefA, undefA, undefA, undefA, undefA, undefA, undefA, undefA, undefA, undefA, undefA, undefA, undefA, undefA, undefA] _) _
  unfold m16_code
  repeat' (first
    | (refine K_ops ?_; first
      | refine W_fastB rfl ?_
      | refine W_nil ?_
      | (refine K_call ?_; first
        | (refine W_callsN 27 rfl (w27 (SlR.now hs hv) hl) rfl ?_; rintro _ h2 ⟨u, c, rfl, ha, t⟩; replace hs := hs.call t; try simp only [cell_back, attr_back, List.set_cons_zero, List.set_cons_succ, List.eraseIdx_cons_succ, List.eraseIdx_zero, List.tail_cons, List.nil_append, List.cons_append] at hs; refine W_norm rfl ?_)
        | (refine W_callsN 28 rfl (w28 hv.ln hl) rfl ?_; rintro _ _ ⟨rfl, rfl⟩; refine W_norm rfl ?_)
        | (refine W_callsN 29 rfl (w29 hs ha (by (try simp only [partL_length]); exact hl)) rfl ?_; rintro _ h3 ⟨rfl, c, ha, hs⟩; refine W_norm rfl ?_)
      )
      | (refine W_lenL rfl (by first | assumption | exact SlR.ln (by assumption) | exact AccS.ln (by assumption) | exact OwnS.ln (by assumption) | exact VwO.ln (by assumption) | exact OwnP.ln (by assumption) | exact Len.sl) ?_; refine W_norm rfl ?_)
      | (refine K_bin ?_; first
        | (refine W_add rfl rfl (IntWalk.i64_in _ (by first | omega | (simp only [List.length_set, List.length_append, List.length_take, List.length_drop, List.length_replicate, List.length_cons, List.length_nil, decs_length, List.length_map]; omega))) ?_; refine W_norm rfl ?_)
        | (refine W_sub rfl rfl (IntWalk.i64_in _ (by first | omega | (simp only [List.length_set, List.length_append, List.length_take, List.length_drop, List.length_replicate, List.length_cons, List.length_nil, decs_length, List.length_map]; omega))) ?_; refine W_norm rfl ?_)
      )
      | (refine W_boxS hs rfl rfl ?_; clear hs; intro bx _ hs; try simp only [cell_back, attr_back, List.set_cons_zero, List.set_cons_succ, List.eraseIdx_cons_succ, List.eraseIdx_zero, List.tail_cons, List.nil_append, List.cons_append] at hs; refine W_norm rfl ?_)
    )
    | (refine K_code ?_; first
      | refine W_seq ?_
      | refine W_ops ?_
      | (refine W_cond rfl (fun hc => ?_) (fun hc => ?_) <;> (try rw [hc]) <;> (try simp only [decide_eq_true_eq, decide_eq_false_iff_not, beq_iff_eq, beq_eq_false_iff_ne, bne_iff_ne, bne_eq_false_iff_eq, Bool.not_eq_true', Bool.not_eq_false', Int.not_lt, Int.not_le, ne_eq, reduceCtorEq, not_true_eq_false, not_false_eq_true, Decidable.not_not] at hc) <;> (try (exfalso; omega)) <;> (try refine W_norm rfl ?_))
      | refine W_skip ?_
      | refine W_ret ?_
      | refine W_draw rfl ?_
    )
    | refine seqK_n ?_
    | refine seqK_r ?_
    | (refine fnK_r rfl ?_; try dsimp only [gd_z, gd_s]))
  · refine ⟨_, rfl, _, _, rfl, ?_, hs.drop 1⟩
    unfold insertL
    rw [if_pos hc]; exact ha
  · have hlen : (partL (partL L x) ((partL L x).length - roomL L.length x n)).length = L.length := by simp only [partL_length]
    have e : insertL L x n a = (let P := partL (partL L x) ((partL L x).length - roomL L.length x n); P.take x.toNat ++ List.replicate (roomL L.length x n).toNat (blankC a) ++ (P.drop x.toNat).take (L.length - (roomL L.length x n).toNat - x.toNat)) := by
      unfold insertL; rw [if_neg hc, hpl]
    rw [e]
    generalize partL (partL L x) ((partL L x).length - roomL L.length x n) = P at *
    generalize roomL L.length x n = k at *
    obtain ⟨id, kd, rfl, rfl, hk⟩ := ha.pos (by omega)
    repeat' (first
      | (refine K_ops ?_; first
        | refine W_fastB rfl ?_
        | refine W_nil ?_
        | (refine K_call ?_; first
          | (refine W_callsN 23 rfl (w23 a hs (by assumption) (by simp only [List.length_append, List.length_take, List.length_drop]; omega) (by simp only [List.length_append, List.length_take, List.length_drop]; omega) hk) rfl ?_; rintro _ h3 ⟨rfl, hs⟩; refine W_norm rfl ?_)
        )
        | (refine W_lenL rfl (by first | assumption | exact SlR.ln (by assumption) | exact AccS.ln (by assumption) | exact OwnS.ln (by assumption) | exact VwO.ln (by assumption) | exact OwnP.ln (by assumption) | exact Len.sl) ?_; refine W_norm rfl ?_)
        | (refine K_bin ?_; first
          | (refine W_add rfl rfl (IntWalk.i64_in _ (by first | omega | (simp only [List.length_set, List.length_append, List.length_take, List.length_drop, List.length_replicate, List.length_cons, List.length_nil, decs_length, List.length_map]; omega))) ?_; refine W_norm rfl ?_)
          | (refine W_sub rfl rfl (IntWalk.i64_in _ (by first | omega | (simp only [List.length_set, List.length_append, List.length_take, List.length_drop, List.length_replicate, List.length_cons, List.length_nil, decs_length, List.length_map]; omega))) ?_; refine W_norm rfl ?_)
        )
        | (refine K_load ?_; first
          | (refine W_loadCA hs 1 rfl rfl rfl ?_; refine W_norm rfl ?_)
        )
        | (refine K_slice ?_; first
          | (refine W_sliceO0 rfl rfl rfl (by first | omega | (simp only [List.length_set, List.length_append, List.length_take, List.length_drop, List.length_replicate, List.length_cons, List.length_nil, decs_length, List.length_map]; omega)) ⟨(by first | omega | (simp only [List.length_set, List.length_append, List.length_take, List.length_drop, List.length_replicate, List.length_cons, List.length_nil, decs_length, List.length_map]; omega)), (by first | omega | (simp only [List.length_set, List.length_append, List.length_take, List.length_drop, List.length_replicate, List.length_cons, List.length_nil, decs_length, List.length_map]; omega)), (by first | omega | (simp only [List.length_set, List.length_append, List.length_take, List.length_drop, List.length_replicate, List.length_cons, List.length_nil, decs_length, List.length_map]; omega))⟩ ?_; intro _ _; refine W_norm rfl ?_)
          | (refine W_sliceO0From rfl rfl (by first | omega | (simp only [List.length_set, List.length_append, List.length_take, List.length_drop, List.length_replicate, List.length_cons, List.length_nil, decs_length, List.length_map]; omega)) ⟨(by first | omega | (simp only [List.length_set, List.length_append, List.length_take, List.length_drop, List.length_replicate, List.length_cons, List.length_nil, decs_length, List.length_map]; omega)), (by first | omega | (simp only [List.length_set, List.length_append, List.length_take, List.length_drop, List.length_replicate, List.length_cons, List.length_nil, decs_length, List.length_map]; omega))⟩ ?_; intro _ _; refine W_norm rfl ?_)
        )
        | (refine K_copy ?_; first
          | (refine W_copyV hs 0 rfl rfl (by first | assumption | exact VwO.whole) rfl (by first | decide | assumption) rfl (by first | omega | (simp only [List.length_set, List.length_append, List.length_take, List.length_drop, List.length_replicate, List.length_cons, List.length_nil, decs_length, List.length_map]; omega)) (by first | exact VwO.sl (by assumption) (hs.at1 0 rfl) (by first | omega | (simp only [List.length_set, List.length_append, List.length_take, List.length_drop, List.length_replicate, List.length_cons, List.length_nil, decs_length, List.length_map]; omega)) | exact VwO.sl (by assumption) (hs.at1 1 rfl) (by first | omega | (simp only [List.length_set, List.length_append, List.length_take, List.length_drop, List.length_replicate, List.length_cons, List.length_nil, decs_length, List.length_map]; omega)) | exact VwO.sl (by assumption) (hs.at1 2 rfl) (by first | omega | (simp only [List.length_set, List.length_append, List.length_take, List.length_drop, List.length_replicate, List.length_cons, List.length_nil, decs_length, List.length_map]; omega)) | assumption | exact SlR.now hs (by assumption) | exact AccS.now (by assumption) hs (by simp) | exact OwnS.now (by assumption) hs (by simp)) ?_; clear hs; intro _ hs; try simp only [cell_back, attr_back, List.set_cons_zero, List.set_cons_succ, List.eraseIdx_cons_succ, List.eraseIdx_zero, List.tail_cons, List.nil_append, List.cons_append] at hs; refine W_norm rfl ?_)
        )
      )
      | (refine K_code ?_; first
        | refine W_seq ?_
        | refine W_ops ?_
        | refine W_ret ?_
        | refine W_draw rfl ?_
      )
      | refine seqK_n ?_
      | (refine fnK_r rfl ?_; try dsimp only [gd_z, gd_s]))
    have e2 := ins_eq (b := blankC a) (show x.toNat + k.toNat ≤ P.length by omega)
    rw [show (x + k).toNat = x.toNat + k.toNat by omega, show ((P.length : Int) - k).toNat = P.length - k.toNat by omega] at hs
    rw [← hlen]
    rw [e2] at hs
    exact ⟨_, rfl, _, _, rfl, AccS.again hk (by simp only [List.length_append, List.length_take, List.length_drop, List.length_replicate]; omega), hs.drop 1⟩



theorem w15 {v : SV} {L : List Cell} {h : Heap} {x n : Int} (a : Attr) (hv : SlR cellE (Now h) v L) (hl : L.length ≤ 100000) :
    Wc DD 15 [.sc v, i64 x, i64 n, .agg (attrE.enc a)] h fun w h' => ∃ u c, w = .sc u ∧ AccS cellE 37 u (deleteL L x n a) c ∧ Sep (Now h) [c] h' := by
  have hs := Sep.entry h
  have hr := roomL_spec L.length x n
  have hpl := partL_length L x
  refine W_enter d15 ?_
  show W _ (.code m15_code [.sc v, i64 x, i64 n, .agg (attrE.enc a), undefA, undefA, undefA, undefA, undefA, undefA, undefA, undefA, undefA, undefA, undefA, undefA, undefA, undefA, undefA, undefA, undefA, undefA, undefA, undefA, undefA, undefA, undefA, undefA, undefA, undefA, undefA, undefA, undefA, undefA, undefA, undefA, undefA, undefA, undefA, undefA, undefA, undefA, undefA, undefA] _) _
  unfold m15_code
  repeat' (first
    | (refine K_ops ?_; first
      | refine W_fastB rfl ?_
      | refine W_nil ?_
      | (refine K_call ?_; first
        | (refine W_callsN 27 rfl (w27 (SlR.now hs hv) hl) rfl ?_; rintro _ h2 ⟨u, c, rfl, ha, t⟩; replace hs := hs.call t; try simp only [cell_back, attr_back, List.set_cons_zero, List.set_cons_succ, List.eraseIdx_cons_succ, List.eraseIdx_zero, List.tail_cons, List.nil_append, List.cons_append] at hs; refine W_norm rfl ?_)
        | (refine W_callsN 28 rfl (w28 hv.ln hl) rfl ?_; rintro _ _ ⟨rfl, rfl⟩; refine W_norm rfl ?_)
        | (refine W_callsN 29 rfl (w29 hs ha (by (try simp only [partL_length]); exact hl)) rfl ?_; rintro _ h3 ⟨rfl, c, ha, hs⟩; refine W_norm rfl ?_)
      )
      | (refine K_bin ?_; first
        | (refine W_add rfl rfl (IntWalk.i64_in _ (by first | omega | (simp only [List.length_set, List.length_append, List.length_take, List.length_drop, List.length_replicate, List.length_cons, List.length_nil, decs_length, List.length_map]; omega))) ?_; refine W_norm rfl ?_)
      )
      | (refine W_boxS hs rfl rfl ?_; clear hs; intro bx _ hs; try simp only [cell_back, attr_back, List.set_cons_zero, List.set_cons_succ, List.eraseIdx_cons_succ, List.eraseIdx_zero, List.tail_cons, List.nil_append, List.cons_append] at hs; refine W_norm rfl ?_)
    )
    | (refine K_code ?_; first
      | refine W_seq ?_
      | refine W_ops ?_
      | (refine W_cond rfl (fun hc => ?_) (fun hc => ?_) <;> (try rw [hc]) <;> (try simp only [decide_eq_true_eq, decide_eq_false_iff_not, beq_iff_eq, beq_eq_false_iff_ne, bne_iff_ne, bne_eq_false_iff_eq, Bool.not_eq_true', Bool.not_eq_false', Int.not_lt, Int.not_le, ne_eq, reduceCtorEq, not_true_eq_false, not_false_eq_true, Decidable.not_not] at hc) <;> (try (exfalso; omega)) <;> (try refine W_norm rfl ?_))
      | refine W_skip ?_
      | refine W_ret ?_
      | refine W_draw rfl ?_
    )
    | refine seqK_n ?_
    | refine seqK_r ?_
    | (refine fnK_r rfl ?_; try dsimp only [gd_z, gd_s]))
  · refine ⟨_, rfl, _, _, rfl, ?_, hs.drop 1⟩
    unfold deleteL
    rw [if_pos hc]; exact ha
  · have hlen : (partL (partL L x) (x + roomL L.length x n)).length = L.length := by simp only [partL_length]
    have e : deleteL L x n a = (let P := partL (partL L x) (x + roomL L.length x n); P.take x.toNat ++ P.drop (x.toNat + (roomL L.length x n).toNat) ++ List.replicate (roomL L.length x n).toNat (blankC a)) := by
      unfold deleteL; rw [if_neg hc]
    rw [e]
    generalize partL (partL L x) (x + roomL L.length x n) = P at *
    generalize roomL L.length x n = k at *
    obtain ⟨id, kd, rfl, rfl, hk⟩ := ha.pos (by omega)
    repeat' (first
      | (refine K_ops ?_; first
        | refine W_fastB rfl ?_
        | refine W_nil ?_
        | (refine K_call ?_; first
          | (refine W_callsN 23 rfl (w23 a hs (by assumption) (by simp only [List.length_append, List.length_take, List.length_drop]; omega) (by simp only [List.length_append, List.length_take, List.length_drop]; omega) hk) rfl ?_; rintro _ h3 ⟨rfl, hs⟩; refine W_norm rfl ?_)
        )
        | (refine W_lenL rfl (by first | assumption | exact SlR.ln (by assumption) | exact AccS.ln (by assumption) | exact OwnS.ln (by assumption) | exact VwO.ln (by assumption) | exact OwnP.ln (by assumption) | exact Len.sl) ?_; refine W_norm rfl ?_)
        | (refine K_bin ?_; first
          | (refine W_add rfl rfl (IntWalk.i64_in _ (by first | omega | (simp only [List.length_set, List.length_append, List.length_take, List.length_drop, List.length_replicate, List.length_cons, List.length_nil, decs_length, List.length_map]; omega))) ?_; refine W_norm rfl ?_)
          | (refine W_sub rfl rfl (IntWalk.i64_in _ (by first | omega | (simp only [List.length_set, List.length_append, List.length_take, List.length_drop, List.length_replicate, List.length_cons, List.length_nil, decs_length, List.length_map]; omega))) ?_; refine W_norm rfl ?_)
        )
        | (refine K_load ?_; first
          | (refine W_loadCA hs 1 rfl rfl rfl ?_; refine W_norm rfl ?_)
        )
        | (refine K_slice ?_; first
          | (refine W_sliceO0From rfl rfl (by first | omega | (simp only [List.length_set, List.length_append, List.length_take, List.length_drop, List.length_replicate, List.length_cons, List.length_nil, decs_length, List.length_map]; omega)) ⟨(by first | omega | (simp only [List.length_set, List.length_append, List.length_take, List.length_drop, List.length_replicate, List.length_cons, List.length_nil, decs_length, List.length_map]; omega)), (by first | omega | (simp only [List.length_set, List.length_append, List.length_take, List.length_drop, List.length_replicate, List.length_cons, List.length_nil, decs_length, List.length_map]; omega))⟩ ?_; intro _ _; refine W_norm rfl ?_)
        )
        | (refine K_copy ?_; first
          | (refine W_copyV hs 0 rfl rfl (by first | assumption | exact VwO.whole) rfl (by first | decide | assumption) rfl (by first | omega | (simp only [List.length_set, List.length_append, List.length_take, List.length_drop, List.length_replicate, List.length_cons, List.length_nil, decs_length, List.length_map]; omega)) (by first | exact VwO.sl (by assumption) (hs.at1 0 rfl) (by first | omega | (simp only [List.length_set, List.length_append, List.length_take, List.length_drop, List.length_replicate, List.length_cons, List.length_nil, decs_length, List.length_map]; omega)) | exact VwO.sl (by assumption) (hs.at1 1 rfl) (by first | omega | (simp only [List.length_set, List.length_append, List.length_take, List.length_drop, List.length_replicate, List.length_cons, List.length_nil, decs_length, List.length_map]; omega)) | exact VwO.sl (by assumption) (hs.at1 2 rfl) (by first | omega | (simp only [List.length_set, List.length_append, List.length_take, List.length_drop, List.length_replicate, List.length_cons, List.length_nil, decs_length, List.length_map]; omega)) | assumption | exact SlR.now hs (by assumption) | exact AccS.now (by assumption) hs (by simp) | exact OwnS.now (by assumption) hs (by simp)) ?_; clear hs; intro _ hs; try simp only [cell_back, attr_back, List.set_cons_zero, List.set_cons_succ, List.eraseIdx_cons_succ, List.eraseIdx_zero, List.tail_cons, List.nil_append, List.cons_append] at hs; refine W_norm rfl ?_)
        )
      )
      | (refine K_code ?_; first
        | refine W_seq ?_
        | refine W_ops ?_
        | refine W_ret ?_
        | refine W_draw rfl ?_
      )
      | refine seqK_n ?_
      | (refine fnK_r rfl ?_; try dsimp only [gd_z, gd_s]))
    have e2 := del_eq (b := blankC a) (show x.toNat + k.toNat ≤ P.length by omega)
    rw [show (x + k).toNat = x.toNat + k.toNat by omega, show ((P.length : Int) - k).toNat = P.length - k.toNat by omega] at hs
    rw [e2] at hs
    exact ⟨_, rfl, _, _, rfl, AccS.again hk (by simp only [List.length_append, List.length_take, List.length_drop, List.length_replicate]; omega), hs.drop 1⟩

end Go.Proofs.YtkkkigkfklngdaaDoor
