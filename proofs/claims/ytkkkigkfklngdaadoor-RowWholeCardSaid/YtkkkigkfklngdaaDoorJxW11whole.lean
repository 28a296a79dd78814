/- The law RowWhole: the plain machine answers true. -/
import Derived.Test.YtkkkigkfklngdaaDoorJxW11rowp
import Derived.Test.YtkkkigkfklngdaaDoorJxE11
set_option linter.unusedSimpArgs false
set_option linter.unusedVariables false
set_option maxHeartbeats 2000000
set_option maxRecDepth 100000
namespace Go.Proofs.YtkkkigkfklngdaaDoor
open Go Go.Jx

structure Act where
  d : Int
  x : Int
  n : Int
  r : Int
  w : Bool
  a : Attr
def act0 : Act := ⟨0, 0, 0, 0, false, attr0⟩
def actE : El Act := ⟨10, fun c => [.int .u8 c.d, .int .i64 c.x, .int .i64 c.n, .int .i32 c.r, .bool c.w, .int .u16 c.a.f, .int .u8 c.a.fk, .int .u32 c.a.fn, .int .u8 c.a.bk, .int .u32 c.a.bn], fun l => match l with | [.int _ d, .int _ x, .int _ n, .int _ r, .bool w, .int _ f, .int _ fk, .int _ fn, .int _ bk, .int _ bn] => ⟨d, x, n, r, w, ⟨f, fk, fn, bk, bn⟩⟩ | _ => act0, act0, fun _ => rfl, by decide, fun _ => rfl⟩

theorem w9 (h : Heap) : Wc DD 9 [] h fun v h' => v = .sc (.bool true) ∧ h' = h := W_known rfl

theorem atI {e0 e : List AV} {ms ks : List Nat} {a b : Int} {x y : Nat × AV} (h : a = b) (k : EnvB e0 ms ks [x, y, (8, .sc (.int .i64 b))] e) : EnvB e0 ms ks [x, y, (8, .sc (.int .i64 a))] e := by subst h; exact k
theorem w5 {n : Int} {v : SV} {acts : List Act} {h : Heap} (hv : SlR actE (Now h) v acts) (hl : acts.length ≤ 9223372036854775807) (hr : ∀ a ∈ acts, -9223372036854775808 ≤ a.x ∧ a.x ≤ 9223372036854775807) : Wc DD 5 [i64 n, .sc v] h fun w h' => w = .sc (.bool true) := by
  have hs := Sep.entry h
  refine W_enter d5 ?_
  show W _ (.code m5_code [i64 n, .sc v, undefA, undefA, undefA, undefA, undefA, undefA, undefA, undefA, undefA, undefA, undefA, undefA, undefA, undefA, undefA, undefA, undefA, undefA, undefA, undefA, undefA, undefA, undefA, undefA, undefA, undefA, undefA, undefA, undefA, undefA, undefA, undefA, undefA, undefA, undefA, undefA, undefA, undefA, undefA, undefA, undefA, undefA, undefA, undefA, undefA, undefA, undefA, undefA, undefA, undefA, undefA, undefA, undefA, undefA, undefA, undefA, undefA, undefA, undefA, undefA, undefA, undefA, undefA, undefA, undefA, undefA, undefA, undefA, undefA, undefA, undefA, undefA, undefA, undefA, undefA, undefA, undefA, undefA, undefA, undefA, undefA, undefA, undefA, undefA, undefA, undefA, undefA, undefA, undefA, undefA, undefA, undefA, undefA, undefA, undefA, undefA, undefA, undefA, undefA, undefA, undefA, undefA, undefA, undefA, undefA, undefA, undefA, undefA, undefA, undefA, undefA, undefA, undefA, undefA, undefA, undefA, undefA, undefA, undefA, undefA, undefA, undefA, undefA, undefA, undefA, undefA, undefA, undefA, undefA, undefA, undefA, undefA, undefA, undefA, undefA, undefA, undefA, undefA, undefA, undefA] _) _
  unfold m5_code
  repeat' (first
    | (refine K_ops ?_; first
      | refine W_fastB rfl ?_
      | refine W_nil ?_
      | (refine K_guard ?_; first
        | refine W_guard_on rfl ?_
        | refine W_guard_off rfl rfl (W_norm rfl ?_)
        | (refine W_guardT rfl (fun hc => ?_) (fun hc => ?_) <;> (try rw [hc]) <;> (try simp only [decide_eq_true_eq, decide_eq_false_iff_not, beq_iff_eq, beq_eq_false_iff_ne, bne_iff_ne, bne_eq_false_iff_eq, Bool.not_eq_true', Bool.not_eq_false', Int.not_lt, Int.not_le, ne_eq, reduceCtorEq, not_true_eq_false, not_false_eq_true, Decidable.not_not] at hc) <;> (try (exfalso; omega)) <;> (try refine W_norm rfl ?_))
        | (refine W_guardF rfl (fun hc => ?_) (fun hc => ?_) <;> (try rw [hc]) <;> (try simp only [decide_eq_true_eq, decide_eq_false_iff_not, beq_iff_eq, beq_eq_false_iff_ne, bne_iff_ne, bne_eq_false_iff_eq, Bool.not_eq_true', Bool.not_eq_false', Int.not_lt, Int.not_le, ne_eq, reduceCtorEq, not_true_eq_false, not_false_eq_true, Decidable.not_not] at hc) <;> (try (exfalso; omega)) <;> (try refine W_norm rfl ?_))
      )
      | (refine K_call ?_; first
        | (refine W_callsN 9 rfl (w9 _) rfl ?_; rintro _ _ ⟨rfl, rfl⟩; refine W_norm rfl ?_)
        | (refine W_callsN 8 rfl (w8 n attr0 _) rfl ?_; rintro _ h2 ⟨u, c, rfl, ha, t⟩; replace hs := hs.call t; try simp only [cell_back, attr_back, List.set_cons_zero, List.set_cons_succ, List.eraseIdx_cons_succ, List.eraseIdx_zero, List.tail_cons, List.nil_append, List.cons_append] at hs; refine W_norm rfl ?_)
      )
      | (refine W_lenL rfl (by first | assumption | exact SlR.ln (by assumption) | exact AccS.ln (by assumption) | exact OwnS.ln (by assumption) | exact VwO.ln (by assumption) | exact OwnP.ln (by assumption) | exact Len.sl) ?_; refine W_norm rfl ?_)
      | (refine K_pick ?_; first
        | refine W_pick_t rfl rfl (W_norm rfl ?_)
        | refine W_pick_f rfl rfl (W_norm rfl ?_)
      )
      | (refine W_buildN rfl ?_; refine W_norm rfl ?_)
    )
    | (refine K_code ?_; first
      | refine W_seq ?_
      | refine W_ops ?_
      | (refine W_cond rfl (fun hc => ?_) (fun hc => ?_) <;> (try rw [hc]) <;> (try simp only [decide_eq_true_eq, decide_eq_false_iff_not, beq_iff_eq, beq_eq_false_iff_ne, bne_iff_ne, bne_eq_false_iff_eq, Bool.not_eq_true', Bool.not_eq_false', Int.not_lt, Int.not_le, ne_eq, reduceCtorEq, not_true_eq_false, not_false_eq_true, Decidable.not_not] at hc) <;> (try (exfalso; omega)) <;> (try refine W_norm rfl ?_))
      | refine W_skip ?_
      | refine W_ret ?_
      | refine W_block ?_
    )
    | refine seqK_n ?_
    | refine seqK_r ?_
    | (refine fnK_r rfl ?_; try dsimp only [gd_z, gd_s]))
  · exact ⟨_, rfl, rfl⟩
  · exact ⟨_, rfl, rfl⟩
  · rw [if_pos (by omega), List.length_replicate] at *
    omega
  · exact ⟨_, rfl, rfl⟩
  have h1 : 1 ≤ n ∧ n ≤ 400 := by
    refine Classical.byContradiction fun hh => hc ?_
    rw [if_neg hh]; rfl
  rw [if_pos h1] at ha
  clear hc t
  refine W_loopB [4, 5, 6, 7, 8, 9, 10, 11, 31, 32, 33, 34, 35, 36, 37, 38, 39, 40, 41, 42, 43, 44, 45, 46, 47, 48, 49, 50, 51, 52, 53, 54, 55, 56, 57, 58, 59, 60, 61, 62, 63, 64, 65, 66, 67, 68, 69, 70, 71, 72, 73, 74, 75, 76, 77, 78, 79, 80, 81, 82, 83, 84, 85, 86, 87, 88, 89, 90, 91, 92, 93, 94, 95, 96, 97, 98, 99, 100, 101, 102, 103, 104, 105, 106, 107, 108, 109, 110, 111, 112, 113, 114, 115, 116, 117, 118, 119, 120, 121, 122, 123, 124, 125, 126, 127, 128, 129, 130, 131, 132, 133, 134, 135, 136, 137, 138, 139, 140] [0, 1, 2, 3, 4, 5, 6, 7, 8, 9, 10, 11, 12, 13, 14, 15, 16, 17, 18, 19, 20, 21, 22, 23, 24, 25, 26, 27, 28, 29, 30, 31, 32, 33, 34, 35, 36, 37, 38, 39, 40, 41, 42, 43, 44, 45, 46, 47, 48, 49, 50, 51, 52, 53, 54, 55, 56, 57, 58, 59, 60, 61, 62, 63, 64, 65, 66, 67, 68, 69, 70, 71, 72, 73, 74, 75, 76, 77, 78, 79, 80, 81, 82, 83, 84, 85, 86, 87, 88, 89, 90, 91, 92, 93, 94, 95, 96, 97, 98, 99, 100, 101, 102, 103, 104, 105, 106, 107, 108, 109, 110, 111, 112, 113, 114, 115, 116, 117, 118, 119, 120, 121, 122, 123, 124, 125, 126, 127, 128, 129, 130, 131, 132, 133, 134, 135, 136, 137, 138, 139, 140, 141] (fun n' sl h' => ∃ (k : Nat) (u : SV) (c : Hp) (L : List Cell), sl = [(5, .sc u), (6, .sc (.int .i64 (k : Int)))] ∧ n' = acts.length - k ∧ k ≤ acts.length ∧ OwnP cellE 37 u L c ∧ W3 L ∧ 1 ≤ L.length ∧ L.length ≤ 400 ∧ Sep (Now h) [c] h') ?_ ?_
  · refine ⟨_, _, ⟨0, u, c, (List.replicate n.toNat (blankC attr0)), rfl, rfl, Nat.zero_le _, ha.p, W3_blanks _ _, ?_, ?_, hs⟩, EnvB.of rfl⟩ <;> rw [List.length_replicate] <;> omega
  clear ha hs
  rintro _ _ us _ h2 ⟨k, u, c, L, rfl, rfl, hk, ha, hw, hL1, hL2, hs⟩ he
  refine W_spell he rfl ?_
  clear he
  unfold m5_l7
  by_cases hlt : k < acts.length
  · have hax := hr (acts.getD k act0) (by rw [List.getD_eq_getElem?_getD, List.getElem?_eq_getElem hlt]; exact List.getElem_mem hlt)
    have hln : Len u L.length := ha.ln
    repeat' (first
      | (refine K_ops ?_; first
        | refine W_fastB rfl ?_
        | refine W_nil ?_
        | (refine W_lenL rfl (by first | assumption | exact SlR.ln (by assumption) | exact AccS.ln (by assumption) | exact OwnS.ln (by assumption) | exact VwO.ln (by assumption) | exact OwnP.ln (by assumption) | exact Len.sl) ?_; refine W_norm rfl ?_)
        | (refine K_index ?_; first
          | (refine W_indexR rfl rfl (by assumption) rfl ⟨(by first | omega | (simp only [List.length_set, List.length_append, List.length_take, List.length_drop, List.length_replicate, List.length_cons, List.length_nil, decs_length]; omega)), (by first | omega | (simp only [List.length_set, List.length_append, List.length_take, List.length_drop, List.length_replicate, List.length_cons, List.length_nil, decs_length]; omega))⟩ ?_; intro _ _ _; refine W_norm rfl ?_)
        )
        | (refine K_load ?_; first
          | (refine W_loadRA hs rfl (by assumption) rfl ?_; refine W_norm rfl ?_)
        )
        | (refine K_store ?_; first
          | (refine W_storeC hs 0 rfl rfl rfl rfl (by first | decide | assumption) rfl rfl ?_; clear hs; intro _ hs; try simp only [cell_back, attr_back, List.set_cons_zero, List.set_cons_succ, List.eraseIdx_cons_succ, List.eraseIdx_zero, List.tail_cons, List.nil_append, List.cons_append] at hs; refine W_norm rfl ?_)
        )
        | (refine W_allocS hs ?_; clear hs; intro _ _ hs; try simp only [cell_back, attr_back, List.set_cons_zero, List.set_cons_succ, List.eraseIdx_cons_succ, List.eraseIdx_zero, List.tail_cons, List.nil_append, List.cons_append] at hs; refine W_norm rfl ?_)
      )
      | (refine K_code ?_; first
        | (refine W_midB (a := .ops m5_r10) [7, 8, 37, 38, 39, 40, 41, 42] [0, 1, 2, 3, 4, 5, 6, 7, 8, 9, 10, 11, 12, 13, 14, 15, 16, 17, 18, 19, 20, 21, 22, 23, 24, 25, 26, 27, 28, 29, 30, 31, 32, 33, 34, 35, 36, 37, 38, 39, 40, 41, 42, 43, 44, 45, 46, 47, 48, 49, 50, 51, 52, 53, 54, 55, 56, 57, 58, 59, 60, 61, 62, 63, 64, 65, 66, 67, 68, 69, 70, 71, 72, 73, 74, 75, 76, 77, 78, 79, 80, 81, 82, 83, 84, 85, 86, 87, 88, 89, 90, 91, 92, 93, 94, 95, 96, 97, 98, 99, 100, 101, 102, 103, 104, 105, 106, 107, 108, 109, 110, 111, 112, 113, 114, 115, 116, 117, 118, 119, 120, 121, 122, 123, 124, 125, 126, 127, 128, 129, 130, 131, 132, 133, 134, 135, 136, 137, 138, 139, 140, 141] (fun sl h' => ∃ (q : Act) (id : Nat), sl = [(7, .sc (.ptr id 0)), (8, .sc (.int .i64 (L.length : Int)))] ∧ (-9223372036854775808 ≤ q.x ∧ q.x ≤ 9223372036854775807) ∧ Sep (Now h) [[(id, .cells 41 .own (actE.enc q))], c] h') ?_ ?_)
        | refine W_seq ?_
        | refine W_ops ?_
        | (refine W_cond rfl (fun hc => ?_) (fun hc => ?_) <;> (try rw [hc]) <;> (try simp only [decide_eq_true_eq, decide_eq_false_iff_not, beq_iff_eq, beq_eq_false_iff_ne, bne_iff_ne, bne_eq_false_iff_eq, Bool.not_eq_true', Bool.not_eq_false', Int.not_lt, Int.not_le, ne_eq, reduceCtorEq, not_true_eq_false, not_false_eq_true, Decidable.not_not] at hc) <;> (try (exfalso; omega)) <;> (try refine W_norm rfl ?_))
        | refine W_skip ?_
        | refine W_block ?_
      )
      | refine seqK_n ?_
      | refine midK_n ?_)
    · exact ⟨_, ⟨acts.getD k act0, _, rfl, hax, hs⟩, EnvB.of rfl⟩
    clear hs hax
    rintro _ us _ h3 ⟨q, id, rfl, hax, hs⟩ he
    refine W_spell he rfl ?_
    clear he
    have hn : SlR cellE (Now h3) u L := ha.now hs (by simp)
    repeat' (first
      | (refine K_ops ?_; first
        | refine W_fastB rfl ?_
        | refine W_nil ?_
        | (refine K_guard ?_; first
          | refine W_guard_on rfl ?_
          | refine W_guard_off rfl rfl (W_norm rfl ?_)
          | refine W_guard_u rfl (W_norm rfl ?_)
          | (refine W_guardT rfl (fun hc => ?_) (fun hc => ?_) <;> (try rw [hc]) <;> (try simp only [decide_eq_true_eq, decide_eq_false_iff_not, beq_iff_eq, beq_eq_false_iff_ne, bne_iff_ne, bne_eq_false_iff_eq, Bool.not_eq_true', Bool.not_eq_false', Int.not_lt, Int.not_le, ne_eq, reduceCtorEq, not_true_eq_false, not_false_eq_true, Decidable.not_not] at hc) <;> (try (exfalso; omega)) <;> (try refine W_norm rfl ?_))
          | (refine W_guardF rfl (fun hc => ?_) (fun hc => ?_) <;> (try rw [hc]) <;> (try simp only [decide_eq_true_eq, decide_eq_false_iff_not, beq_iff_eq, beq_eq_false_iff_ne, bne_iff_ne, bne_eq_false_iff_eq, Bool.not_eq_true', Bool.not_eq_false', Int.not_lt, Int.not_le, ne_eq, reduceCtorEq, not_true_eq_false, not_false_eq_true, Decidable.not_not] at hc) <;> (try (exfalso; omega)) <;> (try refine W_norm rfl ?_))
        )
        | (refine K_call ?_; first
          | (refine W_callsN 18 rfl (w18 q.a (by first | assumption | exact SlR.now hs (by assumption) | exact AccS.now (by assumption) hs (by simp) | exact OwnS.now (by assumption) hs (by simp) | exact OwnP.now (by assumption) hs (by simp)) (by omega) hax) rfl ?_; rintro _ h3 ⟨u', c', rfl, ha', t⟩; replace hs := hs.call t; try simp only [cell_back, attr_back, List.set_cons_zero, List.set_cons_succ, List.eraseIdx_cons_succ, List.eraseIdx_zero, List.tail_cons, List.nil_append, List.cons_append] at hs; refine W_norm rfl ?_)
          | (refine W_callsN 16 rfl (w16 q.a (by first | assumption | exact SlR.now hs (by assumption) | exact AccS.now (by assumption) hs (by simp) | exact OwnS.now (by assumption) hs (by simp) | exact OwnP.now (by assumption) hs (by simp)) (by omega)) rfl ?_; rintro _ h3 ⟨u', c', rfl, ha', t⟩; replace hs := hs.call t; try simp only [cell_back, attr_back, List.set_cons_zero, List.set_cons_succ, List.eraseIdx_cons_succ, List.eraseIdx_zero, List.tail_cons, List.nil_append, List.cons_append] at hs; refine W_norm rfl ?_)
          | (refine W_callsN 15 rfl (w15 q.a (by first | assumption | exact SlR.now hs (by assumption) | exact AccS.now (by assumption) hs (by simp) | exact OwnS.now (by assumption) hs (by simp) | exact OwnP.now (by assumption) hs (by simp)) (by omega)) rfl ?_; rintro _ h3 ⟨u', c', rfl, ha', t⟩; replace hs := hs.call t; try simp only [cell_back, attr_back, List.set_cons_zero, List.set_cons_succ, List.eraseIdx_cons_succ, List.eraseIdx_zero, List.tail_cons, List.nil_append, List.cons_append] at hs; refine W_norm rfl ?_)
          | (refine W_callsN 17 rfl (w17 q.a (by first | assumption | exact SlR.now hs (by assumption) | exact AccS.now (by assumption) hs (by simp) | exact OwnS.now (by assumption) hs (by simp) | exact OwnP.now (by assumption) hs (by simp)) (by omega) hax) rfl ?_; rintro _ h3 ⟨u', c', rfl, ha', t⟩; replace hs := hs.call t; try simp only [cell_back, attr_back, List.set_cons_zero, List.set_cons_succ, List.eraseIdx_cons_succ, List.eraseIdx_zero, List.tail_cons, List.nil_append, List.cons_append] at hs; refine W_norm rfl ?_)
          | (refine W_callsN 19 rfl (w19 q.a (by first | assumption | exact SlR.now hs (by assumption) | exact AccS.now (by assumption) hs (by simp) | exact OwnS.now (by assumption) hs (by simp) | exact OwnP.now (by assumption) hs (by simp)) (by omega)) rfl ?_; rintro _ h3 ⟨u', c', rfl, ha', t⟩; replace hs := hs.call t; try simp only [cell_back, attr_back, List.set_cons_zero, List.set_cons_succ, List.eraseIdx_cons_succ, List.eraseIdx_zero, List.tail_cons, List.nil_append, List.cons_append] at hs; refine W_norm rfl ?_)
        )
        | (refine K_bin ?_; first
          | (refine W_sub rfl rfl (IntWalk.i64_in _ (by first | omega | (simp only [List.length_set, List.length_append, List.length_take, List.length_drop, List.length_replicate, List.length_cons, List.length_nil, decs_length]; omega))) ?_; refine W_norm rfl ?_)
        )
        | (refine K_pick ?_; first
          | refine W_pick_t rfl rfl (W_norm rfl ?_)
          | refine W_pick_f rfl rfl (W_norm rfl ?_)
        )
        | (refine K_load ?_; first
          | (refine W_loadC hs 0 rfl rfl rfl ?_; refine W_norm rfl ?_)
          | (refine W_loadCA hs 0 rfl rfl rfl ?_; refine W_norm rfl ?_)
          | (refine W_loadC hs 1 rfl rfl rfl ?_; refine W_norm rfl ?_)
        )
      )
      | (refine K_code ?_; first
        | (refine W_midB (a := .seq _ (.block 2 _)) [4, 5, 6, 7, 8, 9, 10, 11, 31, 32, 33, 34, 35, 36, 37, 38, 39, 40, 41, 42, 43, 44, 45, 46, 47, 48, 49, 50, 51, 52, 53, 54, 55, 56, 57, 58, 59, 60, 61, 62, 63, 64, 65, 66, 67, 68, 69, 70, 71, 72, 73, 74, 75, 76, 77, 78, 79, 80, 81, 82, 83, 84, 85, 86, 87, 88, 89, 90, 91, 92, 93, 94, 95, 96, 97, 98, 99, 100, 101, 102, 103, 104, 105, 106, 107, 108, 109, 110, 111, 112, 113, 114, 115, 116, 117, 118, 119, 120, 121, 122, 123, 124, 125, 126, 127, 128, 129, 130, 131, 132, 133, 134, 135, 136, 137, 138, 139, 140] [0, 1, 2, 3, 4, 5, 6, 7, 8, 9, 10, 11, 12, 13, 14, 15, 16, 17, 18, 19, 20, 21, 22, 23, 24, 25, 26, 27, 28, 29, 30, 31, 32, 33, 34, 35, 36, 37, 38, 39, 40, 41, 42, 43, 44, 45, 46, 47, 48, 49, 50, 51, 52, 53, 54, 55, 56, 57, 58, 59, 60, 61, 62, 63, 64, 65, 66, 67, 68, 69, 70, 71, 72, 73, 74, 75, 76, 77, 78, 79, 80, 81, 82, 83, 84, 85, 86, 87, 88, 89, 90, 91, 92, 93, 94, 95, 96, 97, 98, 99, 100, 101, 102, 103, 104, 105, 106, 107, 108, 109, 110, 111, 112, 113, 114, 115, 116, 117, 118, 119, 120, 121, 122, 123, 124, 125, 126, 127, 128, 129, 130, 131, 132, 133, 134, 135, 136, 137, 138, 139, 140, 141] (fun sl h' => ∃ (u : SV) (c : Hp) (L : List Cell), sl = [(5, .sc u), (6, .sc (.int .i64 (k : Int))), (8, .sc (.int .i64 (L.length : Int)))] ∧ OwnP cellE 37 u L c ∧ W3 L ∧ 1 ≤ L.length ∧ L.length ≤ 400 ∧ Sep (Now h) [c] h') ?_ ?_)
        | refine W_seq ?_
        | refine W_ops ?_
        | refine W_cond_f rfl ?_
        | (refine W_cond rfl (fun hc => ?_) (fun hc => ?_) <;> (try rw [hc]) <;> (try simp only [decide_eq_true_eq, decide_eq_false_iff_not, beq_iff_eq, beq_eq_false_iff_ne, bne_iff_ne, bne_eq_false_iff_eq, Bool.not_eq_true', Bool.not_eq_false', Int.not_lt, Int.not_le, ne_eq, reduceCtorEq, not_true_eq_false, not_false_eq_true, Decidable.not_not] at hc) <;> (try (exfalso; omega)) <;> (try refine W_norm rfl ?_))
        | refine W_skip ?_
        | refine W_ret ?_
        | refine W_block ?_
      )
      | refine seqK_n ?_
      | refine seqK_r ?_
      | refine blockK_r ?_
      | refine blockK_n ?_
      | refine invK_r ?_
      | refine midK_n ?_
      | refine midK_r ?_
      | (refine fnK_r rfl ?_; try dsimp only [gd_z, gd_s]))
    · rename_i hqw
      exfalso; apply hc; rw [decide_eq_decide, if_pos hqw]; omega
    · rw [if_pos hc] at ha'
      exact ⟨_, ⟨u', c', _, rfl, ha'.p, writeL_whole hc hw, by rw [writeL_length]; exact hL1, by rw [writeL_length]; exact hL2, hs.hd⟩, atI (congrArg Int.ofNat (writeL_length _ _ _ _ _)) (EnvB.of rfl)⟩
    · exact ⟨_, ⟨u, c, L, rfl, ha, hw, hL1, hL2, (hs.front 2 rfl).hd⟩, EnvB.of rfl⟩
    · rename_i hqw
      exfalso; apply hc; rw [hqw]; simp; omega
    · rw [if_pos hc] at ha'
      exact ⟨_, ⟨u', c', _, rfl, ha'.p, writeL_whole hc hw, by rw [writeL_length]; exact hL1, by rw [writeL_length]; exact hL2, hs.hd⟩, atI (congrArg Int.ofNat (writeL_length _ _ _ _ _)) (EnvB.of rfl)⟩
    · exact ⟨_, ⟨u, c, L, rfl, ha, hw, hL1, hL2, (hs.front 2 rfl).hd⟩, EnvB.of rfl⟩
    · exact ⟨_, ⟨u, c, L, rfl, ha, hw, hL1, hL2, (hs.front 2 rfl).hd⟩, EnvB.of rfl⟩
    · exact ⟨_, ⟨u', c', _, rfl, ha'.p, insertL_whole hw, by rw [insertL_length]; exact hL1, by rw [insertL_length]; exact hL2, hs.hd⟩, atI (congrArg Int.ofNat (insertL_length _ _ _ _)) (EnvB.of rfl)⟩
    · exact ⟨_, ⟨u', c', _, rfl, ha'.p, deleteL_whole hw, by rw [deleteL_length]; exact hL1, by rw [deleteL_length]; exact hL2, hs.hd⟩, atI (congrArg Int.ofNat (deleteL_length _ _ _ _)) (EnvB.of rfl)⟩
    · exact ⟨_, ⟨u', c', _, rfl, ha'.p, eraseL_whole hw, by rw [eraseL_length]; exact hL1, by rw [eraseL_length]; exact hL2, hs.hd⟩, atI (congrArg Int.ofNat (eraseL_length _ _ _ _)) (EnvB.of rfl)⟩
    · have e := resizeL_length L q.n q.a
      rw [if_pos (by omega)] at e
      refine ⟨_, ⟨u', c', _, rfl, ha', resizeL_whole hw, by rw [e]; omega, by rw [e]; omega, hs.hd⟩, atI ?_ (EnvB.of rfl)⟩
      rw [e]; omega
    · have e := resizeL_length L q.n q.a
      rw [if_neg (by omega)] at e
      exact ⟨_, ⟨u', c', _, rfl, ha', resizeL_whole hw, by rw [e]; exact hL1, by rw [e]; exact hL2, hs.hd⟩, atI (congrArg Int.ofNat e) (EnvB.of rfl)⟩
    · have e := resizeL_length L q.n q.a
      rw [if_neg (by omega)] at e
      exact ⟨_, ⟨u', c', _, rfl, ha', resizeL_whole hw, by rw [e]; exact hL1, by rw [e]; exact hL2, hs.hd⟩, atI (congrArg Int.ofNat e) (EnvB.of rfl)⟩
    clear hn hs ha hw hL1 hL2 hln
    rintro _ us _ h4 ⟨u, c, L, rfl, ha, hw, hL1, hL2, hs⟩ he
    refine W_spell he rfl ?_
    clear he
    have hn : SlR cellE (Now h4) u L := ha.now hs (by simp)
    repeat' (first
      | (refine K_ops ?_; first
        | refine W_fastB rfl ?_
        | refine W_nil ?_
        | (refine K_guard ?_; first
          | refine W_guard_on rfl ?_
          | (refine W_guardF rfl (fun hc => ?_) (fun hc => ?_) <;> (try rw [hc]) <;> (try simp only [decide_eq_true_eq, decide_eq_false_iff_not, beq_iff_eq, beq_eq_false_iff_ne, bne_iff_ne, bne_eq_false_iff_eq, Bool.not_eq_true', Bool.not_eq_false', Int.not_lt, Int.not_le, ne_eq, reduceCtorEq, not_true_eq_false, not_false_eq_true, Decidable.not_not] at hc) <;> (try (exfalso; omega)) <;> (try refine W_norm rfl ?_))
        )
        | (refine K_call ?_; first
          | (refine W_callsN 12 rfl (w12 hn (by omega)) rfl ?_; rintro _ _ ⟨rfl, rfl⟩; refine W_norm rfl ?_)
        )
        | (refine W_lenL rfl (by first | assumption | exact SlR.ln (by assumption) | exact AccS.ln (by assumption) | exact OwnS.ln (by assumption) | exact VwO.ln (by assumption) | exact OwnP.ln (by assumption) | exact Len.sl) ?_; refine W_norm rfl ?_)
        | (refine K_bin ?_; first
          | (refine W_add rfl rfl (IntWalk.i64_in _ (by first | omega | (simp only [List.length_set, List.length_append, List.length_take, List.length_drop, List.length_replicate, List.length_cons, List.length_nil, decs_length]; omega))) ?_; refine W_norm rfl ?_)
        )
        | (refine K_pick ?_; first
          | refine W_pick_f rfl rfl (W_norm rfl ?_)
        )
      )
      | (refine K_code ?_; first
        | refine W_seq ?_
        | refine W_ops ?_
        | (refine W_cond rfl (fun hc => ?_) (fun hc => ?_) <;> (try rw [hc]) <;> (try simp only [decide_eq_true_eq, decide_eq_false_iff_not, beq_iff_eq, beq_eq_false_iff_ne, bne_iff_ne, bne_eq_false_iff_eq, Bool.not_eq_true', Bool.not_eq_false', Int.not_lt, Int.not_le, ne_eq, reduceCtorEq, not_true_eq_false, not_false_eq_true, Decidable.not_not] at hc) <;> (try (exfalso; omega)) <;> (try refine W_norm rfl ?_))
        | refine W_skip ?_
        | refine W_ret ?_
      )
      | refine seqK_n ?_
      | refine seqK_r ?_
      | refine blockK_r ?_
      | refine blockK_n ?_
      | refine invK_r ?_
      | refine invK_n ?_
      | (refine fnK_r rfl ?_; try dsimp only [gd_z, gd_s]))
    · rw [(wholeB_iff L).2 hw] at hc; cases hc
    · refine ⟨_, ?_, _, ⟨k + 1, u, c, L, rfl, rfl, ?_, ha, hw, hL1, hL2, hs⟩, EnvB.of rfl⟩ <;> omega
  · repeat' (first
      | (refine K_ops ?_; first
        | refine W_fastB rfl ?_
        | refine W_nil ?_
        | (refine K_call ?_; first
          | (refine W_callsN 9 rfl (w9 _) rfl ?_; rintro _ _ ⟨rfl, rfl⟩; refine W_norm rfl ?_)
        )
        | (refine W_lenL rfl (by first | assumption | exact SlR.ln (by assumption) | exact AccS.ln (by assumption) | exact OwnS.ln (by assumption) | exact VwO.ln (by assumption) | exact OwnP.ln (by assumption) | exact Len.sl) ?_; refine W_norm rfl ?_)
      )
      | (refine K_code ?_; first
        | refine W_seq ?_
        | refine W_ops ?_
        | (refine W_cond rfl (fun hc => ?_) (fun hc => ?_) <;> (try rw [hc]) <;> (try simp only [decide_eq_true_eq, decide_eq_false_iff_not, beq_iff_eq, beq_eq_false_iff_ne, bne_iff_ne, bne_eq_false_iff_eq, Bool.not_eq_true', Bool.not_eq_false', Int.not_lt, Int.not_le, ne_eq, reduceCtorEq, not_true_eq_false, not_false_eq_true, Decidable.not_not] at hc) <;> (try (exfalso; omega)) <;> (try refine W_norm rfl ?_))
        | refine W_ret ?_
        | refine W_exit ?_
      )
      | refine seqK_n ?_
      | refine seqK_x ?_
      | refine blockK_e ?_
      | refine invK_x ?_
      | (refine fnK_r rfl ?_; try dsimp only [gd_z, gd_s]))
    exact ⟨_, rfl, rfl⟩

theorem openAct {H : Heap} {l : List SV} (o : OpenL H [.int .u8, .int .i64, .int .i64, .int .i32, .bool, .int .u16, .int .u8, .int .u32, .int .u8, .int .u32] l) : ∃ a, l = actE.enc a ∧ (-9223372036854775808 ≤ a.x ∧ a.x ≤ 9223372036854775807) := by
  simp only [OpenL, OpenS] at o
  obtain ⟨_, _, rfl, ⟨d, rfl, _⟩, _, _, rfl, ⟨x, rfl, hx⟩, _, _, rfl, ⟨n, rfl, _⟩, _, _, rfl, ⟨r, rfl, _⟩, _, _, rfl, ⟨w, rfl⟩, _, _, rfl, ⟨f, rfl, _⟩, _, _, rfl, ⟨fk, rfl, _⟩, _, _, rfl, ⟨fn, rfl, _⟩, _, _, rfl, ⟨bk, rfl, _⟩, _, _, rfl, ⟨bn, rfl, _⟩, rfl⟩ := o
  exact ⟨⟨d, x, n, r, w, ⟨f, fk, fn, bk, bn⟩⟩, rfl, hx⟩
theorem walk_rowWhole (H : Heap) (avs : List AV) (hwf : H.l.length = H.n) (hs : Sub (HL Tryd.prog.globals.size jxLs) H) (ho : OpenA H [(false, [.int .i64]), (false, [.slice 41 10 [.int .u8, .int .i64, .int .i64, .int .i32, .bool, .int .u16, .int .u8, .int .u32, .int .u8, .int .u32]])] avs) : W DD (.call 5 avs H) (fun _ vs _ => vs = [.sc (.bool true)]) := by
  simp only [OpenA] at ho
  obtain ⟨k, s, l', hk, rfl, o1, k2, s2, l2, hk2, rfl, o2, rfl⟩ := ho
  cases hk; cases hk2
  simp only [OpenS] at o1
  obtain ⟨n, rfl, h1, h2⟩ := o1
  obtain ⟨L, hl, hr, hlen⟩ := o2.sl (enc := actE.enc) (R := fun a => -9223372036854775808 ≤ a.x ∧ a.x ≤ 9223372036854775807) actE.len (fun l o => openAct o)
  exact (w5 (n := n) hl (by omega) hr).mono fun _ _ _ ⟨v, hv, h3⟩ => by rw [hv, h3]
end Go.Proofs.YtkkkigkfklngdaaDoor
