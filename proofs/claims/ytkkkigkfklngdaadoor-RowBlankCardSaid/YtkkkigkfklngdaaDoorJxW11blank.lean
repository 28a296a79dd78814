/- The law RowBlank: the plain machine answers true. -/
import Derived.Test.YtkkkigkfklngdaaDoorJxW11rowp
import Derived.Test.YtkkkigkfklngdaaDoorJxW11same
import Derived.Test.YtkkkigkfklngdaaDoorJxW11bls
import Derived.Test.YtkkkigkfklngdaaDoorJxW11text
import Derived.Test.YtkkkigkfklngdaaDoorJxE11
set_option linter.unusedSimpArgs false
set_option linter.unusedVariables false
set_option maxHeartbeats 2000000
set_option maxRecDepth 100000
namespace Go.Proofs.YtkkkigkfklngdaaDoor
open Go Go.Jx

theorem w9 (h : Heap) : Wc DD 9 [] h fun v h' => v = .sc (.bool true) ∧ h' = h := W_known rfl
theorem textB_blanks (n : Nat) (a : Attr) : textB (List.replicate n (blankC a)) = List.replicate n 32 := by
  induction n with
  | zero => rfl
  | succ n ih =>
    rw [List.replicate_succ, List.replicate_succ]
    have : textB (blankC a :: List.replicate n (blankC a)) = [32] ++ textB (List.replicate n (blankC a)) := rfl
    rw [this, ih]; rfl
theorem trimB_blanks (n : Nat) : trimB (List.replicate n 32) 32 = [] := by
  unfold trimB
  rw [List.reverse_replicate]
  induction n with
  | zero => rfl
  | succ n ih => rw [List.replicate_succ, List.dropWhile_cons]; simp [ih]

theorem w3 {n : Int} (a : Attr) {h : Heap} : Wc DD 3 [i64 n, .agg (attrE.enc a)] h fun w h' => w = .sc (.bool true) := by
  have hs := Sep.entry h
  by_cases hn : 1 ≤ n ∧ n ≤ 400
  · have hT : trimB (textB (List.replicate n.toNat (blankC a))) 32 = [] := by rw [textB_blanks, trimB_blanks]
    have hW : wholeB (List.replicate n.toNat (blankC a)) = true := (wholeB_iff _).2 (W3_blanks _ _)
    have hlen : (List.replicate n.toNat (blankC a)).length ≤ 100000 := by rw [List.length_replicate]; omega
    have hrr : ∀ c ∈ List.replicate n.toNat (blankC a), -2147483648 ≤ c.r ∧ c.r ≤ 2147483647 := by
      intro c hc
      rw [(List.mem_replicate.1 hc).2]; simp [blankC]
    refine W_enter d3 ?_
    show W _ (.code m3_code [i64 n, .agg (attrE.enc a), undefA, undefA, undefA, undefA, undefA, undefA, undefA, undefA, undefA, undefA, undefA, undefA, undefA, undefA, undefA, undefA, undefA, undefA, undefA, undefA, undefA, undefA, undefA, undefA, undefA, undefA, undefA, undefA, undefA, undefA, undefA, undefA, undefA, undefA, undefA, undefA] _) _
    unfold m3_code
    repeat' (first
      | (refine K_ops ?_; first
        | refine W_fastB rfl ?_
        | refine W_nil ?_
        | (refine K_guard ?_; first
          | refine W_guard_on rfl ?_
          | refine W_guard_off rfl rfl (W_norm rfl ?_)
          | (refine W_guardT rfl (fun hc => ?_) (fun hc => ?_) <;> (try rw [hc]) <;> (try simp only [decide_eq_true_eq, decide_eq_false_iff_not, beq_iff_eq, beq_eq_false_iff_ne, bne_iff_ne, bne_eq_false_iff_eq, Bool.not_eq_true', Bool.not_eq_false', Int.not_lt, Int.not_le, ne_eq, reduceCtorEq, not_true_eq_false, not_false_eq_true, Decidable.not_not] at hc) <;> (try (exfalso; omega)) <;> (try refine W_norm rfl ?_))
          | (refine W_guardF rfl (fun hc => ?_) (fun hc => ?_) <;> (try rw [hc]) <;> (try simp only [decide_eq_true_eq, decide_eq_false_iff_not, beq_iff_eq, beq_eq_false_iff_ne, bne_iff_ne, bne_eq_false_iff_eq, Bool.not_eq_true', Bool.not_eq_false', Int.not_lt, Int.not_le, ne_eq, reduceCtorEq, not_true_eq_false, not_false_eq_true, Decidable.not_not] at hc) <;> (try (exfalso; omega)) <;> (try refine W_norm rfl ?_))
        )
        | (refine K_call ?_; first
          | (refine W_callsN 9 rfl (w9 _) rfl ?_; rintro _ _ ⟨rfl, rfl⟩; refine W_norm rfl ?_)
          | (refine W_callsN 8 rfl (w8 n a _) rfl ?_; rintro _ h2 ⟨u, c, rfl, ha, t⟩; rw [if_pos hn] at ha; replace hs := hs.call t; try simp only [cell_back, attr_back, List.set_cons_zero, List.set_cons_succ, List.eraseIdx_cons_succ, List.eraseIdx_zero, List.tail_cons, List.nil_append, List.cons_append] at hs; refine W_norm rfl ?_)
          | (refine W_callsN 11 rfl (w11 n a _ (by omega)) rfl ?_; rintro _ h2 ⟨u2, c2, rfl, ha2, t⟩; replace hs := hs.call t; try simp only [cell_back, attr_back, List.set_cons_zero, List.set_cons_succ, List.eraseIdx_cons_succ, List.eraseIdx_zero, List.tail_cons, List.nil_append, List.cons_append] at hs; refine W_norm rfl ?_)
          | (refine W_callsN 10 rfl (w10 (by first | assumption | exact SlR.now hs (by assumption) | exact AccS.now (by assumption) hs (by simp) | exact OwnS.now (by assumption) hs (by simp) | exact OwnP.now (by assumption) hs (by simp)) (by first | assumption | exact SlR.now hs (by assumption) | exact AccS.now (by assumption) hs (by simp) | exact OwnS.now (by assumption) hs (by simp) | exact OwnP.now (by assumption) hs (by simp)) hlen hlen) rfl ?_; rintro _ _ ⟨rfl, rfl⟩; refine W_norm rfl ?_)
          | (refine W_callsN 12 rfl (w12 (by first | assumption | exact SlR.now hs (by assumption) | exact AccS.now (by assumption) hs (by simp) | exact OwnS.now (by assumption) hs (by simp) | exact OwnP.now (by assumption) hs (by simp)) hlen) rfl ?_; rintro _ _ ⟨rfl, rfl⟩; refine W_norm rfl ?_)
          | (refine W_callsN 13 rfl (w13 (by first | assumption | exact SlR.now hs (by assumption) | exact AccS.now (by assumption) hs (by simp) | exact OwnS.now (by assumption) hs (by simp) | exact OwnP.now (by assumption) hs (by simp)) hlen hrr) rfl ?_; rintro _ h2 ⟨rfl, t⟩; rw [hT]; replace hs := hs.call t; try simp only [cell_back, attr_back, List.set_cons_zero, List.set_cons_succ, List.eraseIdx_cons_succ, List.eraseIdx_zero, List.tail_cons, List.nil_append, List.cons_append] at hs; refine W_norm rfl ?_)
        )
        | (refine K_pick ?_; first
          | refine W_pick_t rfl rfl (W_norm rfl ?_)
          | refine W_pick_f rfl rfl (W_norm rfl ?_)
        )
        | (refine K_load ?_; first
          | (refine W_loadCA hs 0 rfl rfl rfl ?_; refine W_norm rfl ?_)
          | (refine W_loadCA hs 1 rfl rfl rfl ?_; refine W_norm rfl ?_)
        )
        | (refine W_boxS hs rfl rfl ?_; clear hs; intro bx _ hs; try simp only [cell_back, attr_back, List.set_cons_zero, List.set_cons_succ, List.eraseIdx_cons_succ, List.eraseIdx_zero, List.tail_cons, List.nil_append, List.cons_append] at hs; refine W_norm rfl ?_)
      )
      | (refine K_code ?_; first
        | refine W_seq ?_
        | refine W_ops ?_
        | (refine W_cond rfl (fun hc => ?_) (fun hc => ?_) <;> (try rw [hc]) <;> (try simp only [decide_eq_true_eq, decide_eq_false_iff_not, beq_iff_eq, beq_eq_false_iff_ne, bne_iff_ne, bne_eq_false_iff_eq, Bool.not_eq_true', Bool.not_eq_false', Int.not_lt, Int.not_le, ne_eq, reduceCtorEq, not_true_eq_false, not_false_eq_true, Decidable.not_not] at hc) <;> (try (exfalso; omega)) <;> (try refine W_norm rfl ?_))
        | refine W_skip ?_
        | refine W_ret ?_
      )
      | refine seqK_n ?_
      | (refine fnK_r rfl ?_; try dsimp only [gd_z, gd_s]))
    all_goals first | exact ⟨_, rfl, rfl⟩ | (rw [hW] at hc; cases hc) | (exfalso; omega)
  · refine W_enter d3 ?_
    show W _ (.code m3_code [i64 n, .agg (attrE.enc a), undefA, undefA, undefA, undefA, undefA, undefA, undefA, undefA, undefA, undefA, undefA, undefA, undefA, undefA, undefA, undefA, undefA, undefA, undefA, undefA, undefA, undefA, undefA, undefA, undefA, undefA, undefA, undefA, undefA, undefA, undefA, undefA, undefA, undefA, undefA, undefA] _) _
    unfold m3_code
    repeat' (first
      | (refine K_ops ?_; first
        | refine W_fastB rfl ?_
        | refine W_nil ?_
        | (refine K_guard ?_; first
          | refine W_guard_on rfl ?_
          | refine W_guard_off rfl rfl (W_norm rfl ?_)
          | (refine W_guardF rfl (fun hc => ?_) (fun hc => ?_) <;> (try rw [hc]) <;> (try simp only [decide_eq_true_eq, decide_eq_false_iff_not, beq_iff_eq, beq_eq_false_iff_ne, bne_iff_ne, bne_eq_false_iff_eq, Bool.not_eq_true', Bool.not_eq_false', Int.not_lt, Int.not_le, ne_eq, reduceCtorEq, not_true_eq_false, not_false_eq_true, Decidable.not_not] at hc) <;> (try (exfalso; omega)) <;> (try refine W_norm rfl ?_))
        )
        | (refine K_call ?_; first
          | (refine W_callsN 9 rfl (w9 _) rfl ?_; rintro _ _ ⟨rfl, rfl⟩; refine W_norm rfl ?_)
          | (refine W_callsN 8 rfl (w8 n a _) rfl ?_; rintro _ h2 ⟨u, c, rfl, ha, t⟩; rw [if_neg hn] at ha; replace hs := hs.call t; try simp only [cell_back, attr_back, List.set_cons_zero, List.set_cons_succ, List.eraseIdx_cons_succ, List.eraseIdx_zero, List.tail_cons, List.nil_append, List.cons_append] at hs; refine W_norm rfl ?_)
        )
        | (refine W_lenL rfl (by first | assumption | exact SlR.ln (by assumption) | exact AccS.ln (by assumption) | exact OwnS.ln (by assumption) | exact VwO.ln (by assumption) | exact OwnP.ln (by assumption) | exact Len.sl) ?_; refine W_norm rfl ?_)
        | (refine K_pick ?_; first
          | refine W_pick_t rfl rfl (W_norm rfl ?_)
          | refine W_pick_f rfl rfl (W_norm rfl ?_)
        )
        | (refine K_load ?_; first
          | (refine W_loadCA hs 0 rfl rfl rfl ?_; refine W_norm rfl ?_)
        )
        | (refine W_boxS hs rfl rfl ?_; clear hs; intro bx _ hs; try simp only [cell_back, attr_back, List.set_cons_zero, List.set_cons_succ, List.eraseIdx_cons_succ, List.eraseIdx_zero, List.tail_cons, List.nil_append, List.cons_append] at hs; refine W_norm rfl ?_)
      )
      | (refine K_code ?_; first
        | refine W_seq ?_
        | refine W_ops ?_
        | refine W_cond_t rfl ?_
        | (refine W_cond rfl (fun hc => ?_) (fun hc => ?_) <;> (try rw [hc]) <;> (try simp only [decide_eq_true_eq, decide_eq_false_iff_not, beq_iff_eq, beq_eq_false_iff_ne, bne_iff_ne, bne_eq_false_iff_eq, Bool.not_eq_true', Bool.not_eq_false', Int.not_lt, Int.not_le, ne_eq, reduceCtorEq, not_true_eq_false, not_false_eq_true, Decidable.not_not] at hc) <;> (try (exfalso; omega)) <;> (try refine W_norm rfl ?_))
        | refine W_ret ?_
      )
      | refine seqK_n ?_
      | refine seqK_r ?_
      | (refine fnK_r rfl ?_; try dsimp only [gd_z, gd_s]))
    all_goals first | exact ⟨_, rfl, rfl⟩ | (rw [hW] at hc; cases hc) | (exfalso; omega)

theorem openAttr {H : Heap} {l : List SV} (o : OpenL H [.int .u16, .int .u8, .int .u32, .int .u8, .int .u32] l) : ∃ a, l = attrE.enc a := by
  simp only [OpenL, OpenS] at o
  obtain ⟨_, _, rfl, ⟨f, rfl, _⟩, _, _, rfl, ⟨fk, rfl, _⟩, _, _, rfl, ⟨fn, rfl, _⟩, _, _, rfl, ⟨bk, rfl, _⟩, _, _, rfl, ⟨bn, rfl, _⟩, rfl⟩ := o
  exact ⟨⟨f, fk, fn, bk, bn⟩, rfl⟩
theorem walk_rowBlank (H : Heap) (avs : List AV) (hwf : H.l.length = H.n) (hs : Sub (HL Tryd.prog.globals.size jxLs) H) (ho : OpenA H [(false, [.int .i64]), (true, [.int .u16, .int .u8, .int .u32, .int .u8, .int .u32])] avs) : W DD (.call 3 avs H) (fun _ vs _ => vs = [.sc (.bool true)]) := by
  simp only [OpenA] at ho
  obtain ⟨k, s, l', hk, rfl, o1, svs, l2, rfl, o2, rfl⟩ := ho
  cases hk
  simp only [OpenS] at o1
  obtain ⟨n, rfl, _⟩ := o1
  obtain ⟨a, rfl⟩ := openAttr o2
  exact (w3 (n := n) a).mono fun _ _ _ ⟨v, hv, h3⟩ => by rw [hv, h3]
end Go.Proofs.YtkkkigkfklngdaaDoor
