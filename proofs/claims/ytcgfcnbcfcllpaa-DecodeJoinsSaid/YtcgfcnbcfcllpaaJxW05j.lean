/- The law DecodeJoins. CLNONE -/
import Derived.Test.YtcgfcnbcfcllpaaJxW05h
set_option linter.unusedSimpArgs false
set_option linter.unusedVariables false
set_option maxHeartbeats 4000000
set_option maxRecDepth 100000
namespace Go.Proofs.Ytcgfcnbcfcllpaa
open Go Go.Jx

theorem outA_eqj (l : List Int) : outA l = .tup [.agg [.int .i32 (l.getD 0 0), .int .i32 (l.getD 1 0)], i64 (l.length : Int)] := rfl
theorem w9j (h : Heap) : Wc DD 9 [] h fun v h' => v = .sc (.bool true) ∧ h' = h := W_known rfl
/-- Not fewer than a quarter, and not more, than bytes. -/
theorem runP_bounds : ∀ (l : List UInt8) (d : Dec) (s : List Int), Same d s → (runP d l).2.length + (runP d l).1.kept ≤ l.length + d.kept ∧ l.length + d.kept ≤ 4 * (runP d l).2.length + (runP d l).1.kept := by
  intro l
  induction l with
  | nil => intro d s h; simp [runP]
  | cons b l ih =>
    intro d s h
    have hb : 0 ≤ (b.toNat : Int) ∧ (b.toNat : Int) < 256 := ⟨by omega, by have := b.toNat_lt; omega⟩
    have h1 := byte_same h hb
    have h2 := ih _ _ h1.1
    have hk := h.kept
    have hk1 := h1.1.kept
    have key : (byteL d b.toNat).2.length + (byteL d b.toNat).1.kept ≤ 1 + d.kept ∧ 1 + d.kept ≤ 4 * (byteL d b.toNat).2.length + (byteL d b.toNat).1.kept := by
      have hok := h.ok
      obtain ⟨k1, k2, k3, k4, k5, k6⟩ := hok
      have hf : ∀ d : Dec, d.kept = 0 → (firstL d b.toNat).2.length + (firstL d b.toNat).1.kept = 1 := by
        intro d hd
        unfold firstL
        split
        · simp [hd]
        split
        · simp [hd]
        · simp
      unfold byteL
      split
      · split
        · simp [dec0]; omega
        · simp; omega
      · split
        · have := hf dec0 rfl
          simp only [List.length_cons]
          omega
        · rename_i hn
          have := hf d (by omega)
          omega
    simp only [runP, List.length_append, List.length_cons]
    omega
/-- What all of a text tells, when its first part is over. -/
theorem allP_join {a b : List UInt8} (h : (runP dec0 a).1.kept = 0) : allP (a ++ b) = allP a ++ allP b := by
  have hs := (runB_same a).1
  have hd : (runP dec0 a).1 = dec0 := by
    rcases hs with ⟨_, h1⟩ | ⟨_, _, _, _, h1⟩ | ⟨_, _, _, _, _, _, _, h1⟩ | ⟨_, _, _, _, _, _, _, _, _, _, h1⟩
    · exact h1
    all_goals rw [h1] at h; simp at h
  unfold allP
  rw [runP_append, hd]
  simp [tailP, dec0]
theorem w8 {a b : List UInt8} {h : Heap} (hla : a.length ≤ 2 ^ 63 - 1) (hlb : b.length ≤ 2 ^ 63 - 1) : Wc DD 8 [.sc (.str a), .sc (.str b)] h fun v h' => v = bo true := by
  have hs := Sep.entry h
  refine W_enter d8 ?_
  show W _ (.code m8_code [.sc (.str a), .sc (.str b), undefA, undefA, undefA, undefA, undefA, undefA, undefA, undefA, undefA, undefA, undefA, undefA, undefA, undefA, undefA, undefA, undefA, undefA, undefA, undefA, undefA, undefA, undefA, undefA, undefA, undefA, undefA, undefA, undefA, undefA, undefA, undefA, undefA, undefA, undefA, undefA, undefA, undefA, undefA, undefA, undefA, undefA, undefA, undefA, undefA, undefA, undefA, undefA, undefA, undefA, undefA, undefA, undefA, undefA, undefA, undefA, undefA, undefA, undefA, undefA, undefA, undefA, undefA, undefA, undefA, undefA, undefA] _) _
  unfold m8_code
  by_cases hlen : a.length ≤ 3000 ∧ b.length ≤ 3000
  · obtain ⟨h1, h2⟩ := hlen
    have la := allP_len a
    have lb := allP_len b
    have hbd := runP_bounds a dec0 [] same0
    have hok := run_ok a
    obtain ⟨ok1, ok2, _⟩ := hok
    have htl : (allP a).length ≤ a.length ∧ a.length ≤ 4 * (allP a).length := by
      unfold allP tailP
      have hd0 : dec0.kept = 0 := rfl
      rw [List.length_append]
      split <;> simp only [List.length_nil, List.length_cons] <;> omega
    repeat' (first
      | (refine K_ops ?_; first
        | refine W_fastB rfl ?_
        | refine W_nil ?_
        | (refine K_guard ?_; first
          | refine W_guard_on rfl ?_
          | refine W_guard_off rfl rfl (W_norm rfl ?_)
          | refine W_guard_u rfl (W_norm rfl ?_)
          | (refine W_guardT rfl (fun hc => ?_) (fun hc => ?_) <;> (try rw [hc]) <;> (try simp only [decide_eq_true_eq, decide_eq_false_iff_not, beq_iff_eq, beq_eq_false_iff_ne, bne_iff_ne, bne_eq_false_iff_eq, Bool.not_eq_true', Bool.not_eq_false', Int.not_lt, Int.not_le, ne_eq, reduceCtorEq, not_true_eq_false, not_false_eq_true, Decidable.not_not] at hc) <;> (try (exfalso; omega)) <;> (try refine W_norm rfl ?_))
          | (refine W_guardF rfl (fun hc => ?_) (fun hc => ?_) <;> (try rw [hc]) <;> (try simp only [decide_eq_true_eq, decide_eq_false_iff_not, beq_iff_eq, beq_eq_false_iff_ne, bne_iff_ne, bne_eq_false_iff_eq, Bool.not_eq_true', Bool.not_eq_false', Int.not_lt, Int.not_le, ne_eq, reduceCtorEq, not_true_eq_false, not_false_eq_true, Decidable.not_not] at hc) <;> (try (exfalso; omega)) <;> (try refine W_norm rfl ?_))
        )
        | (refine K_call ?_; first
          | (refine W_callsN 9 rfl (w9j _) rfl ?_; rintro _ h ⟨rfl, rfl⟩; refine W_norm rfl ?_)
          | (refine W_callsN 11 rfl (w11s (s := a) (by omega)) rfl ?_; rintro _ h3 ⟨u1, rfl, hu1, t⟩; replace hs := hs.call t; try simp only [cell_back, attr_back, List.set_cons_zero, List.set_cons_succ, List.eraseIdx_cons_succ, List.eraseIdx_zero, List.tail_cons, List.nil_append, List.cons_append] at hs; refine W_norm rfl ?_)
          | (refine W_callsN 11 rfl (w11s (s := b) (by omega)) rfl ?_; rintro _ h4 ⟨u2, rfl, hu2, t⟩; replace hu1 := hu1.mono t.le; replace hs := hs.call t; try simp only [cell_back, attr_back, List.set_cons_zero, List.set_cons_succ, List.eraseIdx_cons_succ, List.eraseIdx_zero, List.tail_cons, List.nil_append, List.cons_append] at hs; refine W_norm rfl ?_)
          | (refine W_callsN 11 rfl (w11s (s := a ++ b) (by rw [List.length_append]; omega)) rfl ?_; rintro _ h5 ⟨u3, rfl, hu3, t⟩; replace hu1 := hu1.mono t.le; replace hu2 := hu2.mono t.le; replace hs := Sep.entry h5; refine W_norm rfl ?_)
        )
        | (refine W_lenL rfl (by first | assumption | exact SlR.ln (by assumption) | exact AccS.ln (by assumption) | exact OwnS.ln (by assumption) | exact VwO.ln (by assumption) | exact OwnP.ln (by assumption) | exact Len.sl) ?_; refine W_norm rfl ?_)
        | (refine K_bin ?_; first
          | (refine W_add rfl rfl (IntWalk.i64_in _ (by first | omega | (simp only [List.length_set, List.length_append, List.length_take, List.length_drop, List.length_replicate, List.length_cons, List.length_nil, decs_length, List.length_map]; omega))) ?_; refine W_norm rfl ?_)
          | (refine W_add rfl rfl (IntWalk.i32_in _ (by first | omega | (simp only [List.length_set, List.length_append, List.length_take, List.length_drop, List.length_replicate, List.length_cons, List.length_nil, decs_length, List.length_map]; omega))) ?_; refine W_norm rfl ?_)
          | (refine W_add rfl rfl (IntWalk.u8_in _ (by first | omega | (simp only [List.length_set, List.length_append, List.length_take, List.length_drop, List.length_replicate, List.length_cons, List.length_nil, decs_length, List.length_map]; omega))) ?_; refine W_norm rfl ?_)
          | (refine W_sub rfl rfl (IntWalk.i64_in _ (by first | omega | (simp only [List.length_set, List.length_append, List.length_take, List.length_drop, List.length_replicate, List.length_cons, List.length_nil, decs_length, List.length_map]; omega))) ?_; refine W_norm rfl ?_)
          | (refine W_sub rfl rfl (IntWalk.i32_in _ (by first | omega | (simp only [List.length_set, List.length_append, List.length_take, List.length_drop, List.length_replicate, List.length_cons, List.length_nil, decs_length, List.length_map]; omega))) ?_; refine W_norm rfl ?_)
          | (refine W_sub rfl rfl (IntWalk.u8_in _ (by first | omega | (simp only [List.length_set, List.length_append, List.length_take, List.length_drop, List.length_replicate, List.length_cons, List.length_nil, decs_length, List.length_map]; omega))) ?_; refine W_norm rfl ?_)
          | (refine W_mul rfl rfl (IntWalk.i64_in _ (by first | omega | (simp only [List.length_set, List.length_append, List.length_take, List.length_drop, List.length_replicate, List.length_cons, List.length_nil, decs_length, List.length_map]; omega))) ?_; refine W_norm rfl ?_)
          | (refine W_mul rfl rfl (IntWalk.i32_in _ (by first | omega | (simp only [List.length_set, List.length_append, List.length_take, List.length_drop, List.length_replicate, List.length_cons, List.length_nil, decs_length, List.length_map]; omega))) ?_; refine W_norm rfl ?_)
          | (refine W_mul rfl rfl (IntWalk.u8_in _ (by first | omega | (simp only [List.length_set, List.length_append, List.length_take, List.length_drop, List.length_replicate, List.length_cons, List.length_nil, decs_length, List.length_map]; omega))) ?_; refine W_norm rfl ?_)
          | (refine W_div rfl rfl (by omega) ?_; refine W_norm rfl ?_)
          | (refine W_mod rfl rfl (by omega) ?_; refine W_norm rfl ?_)
          | (refine W_cat rfl rfl (by first | omega | (simp only [List.length_set, List.length_append, List.length_take, List.length_drop, List.length_replicate, List.length_cons, List.length_nil, decs_length, List.length_map]; omega)) ?_; refine W_norm rfl ?_)
          | (refine W_nilSl_t rfl rfl rfl ?_; refine W_norm rfl ?_)
          | (refine W_nilSl_f rfl rfl rfl ?_; refine W_norm rfl ?_)
          | (refine W_nilSl_e rfl rfl rfl ?_; refine W_norm rfl ?_)
          | (refine W_nil_ptr_f rfl rfl rfl ?_; refine W_norm rfl ?_)
          | (refine W_nil_ptr_t rfl rfl rfl ?_; refine W_norm rfl ?_)
          | (refine W_nePtrSame rfl rfl rfl ?_; refine W_norm rfl ?_)
          | (refine W_shr rfl rfl (by decide) ?_; refine W_norm rfl ?_)
          | (refine W_and rfl rfl ?_; refine W_norm rfl ?_)
          | (refine W_or rfl rfl ?_; refine W_norm rfl ?_)
          | (refine W_add rfl rfl rfl ?_; refine W_norm rfl ?_)
          | (refine W_sub rfl rfl rfl ?_; refine W_norm rfl ?_)
          | (refine W_mul rfl rfl rfl ?_; refine W_norm rfl ?_)
        )
        | (refine K_pick ?_; first
          | refine W_pick_t rfl rfl (W_norm rfl ?_)
          | refine W_pick_f rfl rfl (W_norm rfl ?_)
          | (refine W_pick rfl (fun hc => ?_) (fun hc => ?_) <;> (try rw [hc]) <;> (try simp only [decide_eq_true_eq, decide_eq_false_iff_not, beq_iff_eq, beq_eq_false_iff_ne, bne_iff_ne, bne_eq_false_iff_eq, Bool.not_eq_true', Bool.not_eq_false', Int.not_lt, Int.not_le, ne_eq, reduceCtorEq, not_true_eq_false, not_false_eq_true, Decidable.not_not] at hc) <;> (try (exfalso; omega)) <;> (try refine W_norm rfl ?_))
        )
        | (refine K_index ?_; first
          | (refine W_indexO rfl rfl ⟨(by first | omega | (simp only [List.length_set, List.length_append, List.length_take, List.length_drop, List.length_replicate, List.length_cons, List.length_nil, decs_length, List.length_map]; omega)), (by first | omega | (simp only [List.length_set, List.length_append, List.length_take, List.length_drop, List.length_replicate, List.length_cons, List.length_nil, decs_length, List.length_map]; omega))⟩ ?_; refine W_norm rfl ?_)
          | (refine W_indexVw rfl rfl (by assumption) ⟨(by first | omega | (simp only [List.length_set, List.length_append, List.length_take, List.length_drop, List.length_replicate, List.length_cons, List.length_nil, decs_length, List.length_map]; omega)), (by first | omega | (simp only [List.length_set, List.length_append, List.length_take, List.length_drop, List.length_replicate, List.length_cons, List.length_nil, decs_length, List.length_map]; omega))⟩ ?_; refine W_norm rfl ?_)
          | (refine W_indexV rfl rfl ⟨(by first | omega | (simp only [List.length_set, List.length_append, List.length_take, List.length_drop, List.length_replicate, List.length_cons, List.length_nil, decs_length, List.length_map]; omega)), (by first | omega | (simp only [List.length_set, List.length_append, List.length_take, List.length_drop, List.length_replicate, List.length_cons, List.length_nil, decs_length, List.length_map]; omega))⟩ ?_; refine W_norm rfl ?_)
          | (refine W_indexR rfl rfl (by assumption) rfl ⟨(by first | omega | (simp only [List.length_set, List.length_append, List.length_take, List.length_drop, List.length_replicate, List.length_cons, List.length_nil, decs_length, List.length_map]; omega)), (by first | omega | (simp only [List.length_set, List.length_append, List.length_take, List.length_drop, List.length_replicate, List.length_cons, List.length_nil, decs_length, List.length_map]; omega))⟩ ?_; intro _ _ _; refine W_norm rfl ?_)
        )
        | (refine K_load ?_; first
          | (refine W_loadR hs rfl (by assumption) rfl ?_; refine W_norm rfl ?_)
          | (refine W_loadRF hs rfl (by assumption) rfl ?_; refine W_norm rfl ?_)
          | (refine W_loadRA hs rfl (by assumption) rfl ?_; refine W_norm rfl ?_)
          | (refine W_loadRP hs rfl (by assumption) rfl ?_; refine W_norm rfl ?_)
          | (refine W_loadO hs 0 rfl rfl rfl (by first | omega | (simp only [List.length_set, List.length_append, List.length_take, List.length_drop, List.length_replicate, List.length_cons, List.length_nil, decs_length, List.length_map]; omega)) rfl ?_; refine W_norm rfl ?_)
          | (refine W_loadOF hs 0 rfl rfl rfl (by first | omega | (simp only [List.length_set, List.length_append, List.length_take, List.length_drop, List.length_replicate, List.length_cons, List.length_nil, decs_length, List.length_map]; omega)) rfl ?_; refine W_norm rfl ?_)
          | (refine W_loadOA hs 0 rfl rfl rfl (by first | omega | (simp only [List.length_set, List.length_append, List.length_take, List.length_drop, List.length_replicate, List.length_cons, List.length_nil, decs_length, List.length_map]; omega)) ?_; refine W_norm rfl ?_)
          | (refine W_loadOP hs 0 rfl rfl rfl (by first | omega | (simp only [List.length_set, List.length_append, List.length_take, List.length_drop, List.length_replicate, List.length_cons, List.length_nil, decs_length, List.length_map]; omega)) rfl ?_; refine W_norm rfl ?_)
          | (refine W_loadC hs 0 rfl rfl rfl ?_; refine W_norm rfl ?_)
          | (refine W_loadCA hs 0 rfl rfl rfl ?_; refine W_norm rfl ?_)
          | (refine W_loadO hs 1 rfl rfl rfl (by first | omega | (simp only [List.length_set, List.length_append, List.length_take, List.length_drop, List.length_replicate, List.length_cons, List.length_nil, decs_length, List.length_map]; omega)) rfl ?_; refine W_norm rfl ?_)
          | (refine W_loadOF hs 1 rfl rfl rfl (by first | omega | (simp only [List.length_set, List.length_append, List.length_take, List.length_drop, List.length_replicate, List.length_cons, List.length_nil, decs_length, List.length_map]; omega)) rfl ?_; refine W_norm rfl ?_)
          | (refine W_loadOA hs 1 rfl rfl rfl (by first | omega | (simp only [List.length_set, List.length_append, List.length_take, List.length_drop, List.length_replicate, List.length_cons, List.length_nil, decs_length, List.length_map]; omega)) ?_; refine W_norm rfl ?_)
          | (refine W_loadOP hs 1 rfl rfl rfl (by first | omega | (simp only [List.length_set, List.length_append, List.length_take, List.length_drop, List.length_replicate, List.length_cons, List.length_nil, decs_length, List.length_map]; omega)) rfl ?_; refine W_norm rfl ?_)
          | (refine W_loadC hs 1 rfl rfl rfl ?_; refine W_norm rfl ?_)
          | (refine W_loadCA hs 1 rfl rfl rfl ?_; refine W_norm rfl ?_)
          | (refine W_loadO hs 2 rfl rfl rfl (by first | omega | (simp only [List.length_set, List.length_append, List.length_take, List.length_drop, List.length_replicate, List.length_cons, List.length_nil, decs_length, List.length_map]; omega)) rfl ?_; refine W_norm rfl ?_)
          | (refine W_loadOF hs 2 rfl rfl rfl (by first | omega | (simp only [List.length_set, List.length_append, List.length_take, List.length_drop, List.length_replicate, List.length_cons, List.length_nil, decs_length, List.length_map]; omega)) rfl ?_; refine W_norm rfl ?_)
          | (refine W_loadOA hs 2 rfl rfl rfl (by first | omega | (simp only [List.length_set, List.length_append, List.length_take, List.length_drop, List.length_replicate, List.length_cons, List.length_nil, decs_length, List.length_map]; omega)) ?_; refine W_norm rfl ?_)
          | (refine W_loadOP hs 2 rfl rfl rfl (by first | omega | (simp only [List.length_set, List.length_append, List.length_take, List.length_drop, List.length_replicate, List.length_cons, List.length_nil, decs_length, List.length_map]; omega)) rfl ?_; refine W_norm rfl ?_)
          | (refine W_loadC hs 2 rfl rfl rfl ?_; refine W_norm rfl ?_)
          | (refine W_loadCA hs 2 rfl rfl rfl ?_; refine W_norm rfl ?_)
        )
        | (refine K_store ?_; first
          | (refine W_storeO hs 0 rfl rfl rfl rfl rfl (by first | omega | (simp only [List.length_set, List.length_append, List.length_take, List.length_drop, List.length_replicate, List.length_cons, List.length_nil, decs_length, List.length_map]; omega)) (by first | decide | assumption) rfl ?_; clear hs; intro _ hs; try simp only [cell_back, attr_back, List.set_cons_zero, List.set_cons_succ, List.eraseIdx_cons_succ, List.eraseIdx_zero, List.tail_cons, List.nil_append, List.cons_append] at hs; refine W_norm rfl ?_)
          | (refine W_storeOF hs 0 rfl rfl rfl rfl rfl (by first | omega | (simp only [List.length_set, List.length_append, List.length_take, List.length_drop, List.length_replicate, List.length_cons, List.length_nil, decs_length, List.length_map]; omega)) (by first | decide | assumption) rfl rfl rfl rfl ?_; clear hs; intro _ hs; try simp only [cell_back, attr_back, List.set_cons_zero, List.set_cons_succ, List.eraseIdx_cons_succ, List.eraseIdx_zero, List.tail_cons, List.nil_append, List.cons_append] at hs; refine W_norm rfl ?_)
          | (refine W_storeC hs 0 rfl rfl rfl rfl (by first | decide | assumption) rfl rfl ?_; clear hs; intro _ hs; try simp only [cell_back, attr_back, List.set_cons_zero, List.set_cons_succ, List.eraseIdx_cons_succ, List.eraseIdx_zero, List.tail_cons, List.nil_append, List.cons_append] at hs; refine W_norm rfl ?_)
          | (refine W_storeO hs 1 rfl rfl rfl rfl rfl (by first | omega | (simp only [List.length_set, List.length_append, List.length_take, List.length_drop, List.length_replicate, List.length_cons, List.length_nil, decs_length, List.length_map]; omega)) (by first | decide | assumption) rfl ?_; clear hs; intro _ hs; try simp only [cell_back, attr_back, List.set_cons_zero, List.set_cons_succ, List.eraseIdx_cons_succ, List.eraseIdx_zero, List.tail_cons, List.nil_append, List.cons_append] at hs; refine W_norm rfl ?_)
          | (refine W_storeOF hs 1 rfl rfl rfl rfl rfl (by first | omega | (simp only [List.length_set, List.length_append, List.length_take, List.length_drop, List.length_replicate, List.length_cons, List.length_nil, decs_length, List.length_map]; omega)) (by first | decide | assumption) rfl rfl rfl rfl ?_; clear hs; intro _ hs; try simp only [cell_back, attr_back, List.set_cons_zero, List.set_cons_succ, List.eraseIdx_cons_succ, List.eraseIdx_zero, List.tail_cons, List.nil_append, List.cons_append] at hs; refine W_norm rfl ?_)
          | (refine W_storeC hs 1 rfl rfl rfl rfl (by first | decide | assumption) rfl rfl ?_; clear hs; intro _ hs; try simp only [cell_back, attr_back, List.set_cons_zero, List.set_cons_succ, List.eraseIdx_cons_succ, List.eraseIdx_zero, List.tail_cons, List.nil_append, List.cons_append] at hs; refine W_norm rfl ?_)
          | (refine W_storeO hs 2 rfl rfl rfl rfl rfl (by first | omega | (simp only [List.length_set, List.length_append, List.length_take, List.length_drop, List.length_replicate, List.length_cons, List.length_nil, decs_length, List.length_map]; omega)) (by first | decide | assumption) rfl ?_; clear hs; intro _ hs; try simp only [cell_back, attr_back, List.set_cons_zero, List.set_cons_succ, List.eraseIdx_cons_succ, List.eraseIdx_zero, List.tail_cons, List.nil_append, List.cons_append] at hs; refine W_norm rfl ?_)
          | (refine W_storeOF hs 2 rfl rfl rfl rfl rfl (by first | omega | (simp only [List.length_set, List.length_append, List.length_take, List.length_drop, List.length_replicate, List.length_cons, List.length_nil, decs_length, List.length_map]; omega)) (by first | decide | assumption) rfl rfl rfl rfl ?_; clear hs; intro _ hs; try simp only [cell_back, attr_back, List.set_cons_zero, List.set_cons_succ, List.eraseIdx_cons_succ, List.eraseIdx_zero, List.tail_cons, List.nil_append, List.cons_append] at hs; refine W_norm rfl ?_)
          | (refine W_storeC hs 2 rfl rfl rfl rfl (by first | decide | assumption) rfl rfl ?_; clear hs; intro _ hs; try simp only [cell_back, attr_back, List.set_cons_zero, List.set_cons_succ, List.eraseIdx_cons_succ, List.eraseIdx_zero, List.tail_cons, List.nil_append, List.cons_append] at hs; refine W_norm rfl ?_)
        )
        | (refine W_allocS hs ?_; clear hs; intro al _ hs; try simp only [cell_back, attr_back, List.set_cons_zero, List.set_cons_succ, List.eraseIdx_cons_succ, List.eraseIdx_zero, List.tail_cons, List.nil_append, List.cons_append] at hs; refine W_norm rfl ?_)
        | (refine W_boxS hs rfl rfl ?_; clear hs; intro bx _ hs; try simp only [cell_back, attr_back, List.set_cons_zero, List.set_cons_succ, List.eraseIdx_cons_succ, List.eraseIdx_zero, List.tail_cons, List.nil_append, List.cons_append] at hs; refine W_norm rfl ?_)
        | (refine K_slice ?_; first
          | (refine W_sliceO0 rfl rfl rfl (by first | omega | (simp only [List.length_set, List.length_append, List.length_take, List.length_drop, List.length_replicate, List.length_cons, List.length_nil, decs_length, List.length_map]; omega)) ⟨(by first | omega | (simp only [List.length_set, List.length_append, List.length_take, List.length_drop, List.length_replicate, List.length_cons, List.length_nil, decs_length, List.length_map]; omega)), (by first | omega | (simp only [List.length_set, List.length_append, List.length_take, List.length_drop, List.length_replicate, List.length_cons, List.length_nil, decs_length, List.length_map]; omega)), (by first | omega | (simp only [List.length_set, List.length_append, List.length_take, List.length_drop, List.length_replicate, List.length_cons, List.length_nil, decs_length, List.length_map]; omega))⟩ ?_; intro _ _; refine W_norm rfl ?_)
          | (refine W_sliceO0To rfl rfl (by first | omega | (simp only [List.length_set, List.length_append, List.length_take, List.length_drop, List.length_replicate, List.length_cons, List.length_nil, decs_length, List.length_map]; omega)) ⟨(by first | omega | (simp only [List.length_set, List.length_append, List.length_take, List.length_drop, List.length_replicate, List.length_cons, List.length_nil, decs_length, List.length_map]; omega)), (by first | omega | (simp only [List.length_set, List.length_append, List.length_take, List.length_drop, List.length_replicate, List.length_cons, List.length_nil, decs_length, List.length_map]; omega))⟩ ?_; intro _ _; refine W_norm rfl ?_)
          | (refine W_sliceO0From rfl rfl (by first | omega | (simp only [List.length_set, List.length_append, List.length_take, List.length_drop, List.length_replicate, List.length_cons, List.length_nil, decs_length, List.length_map]; omega)) ⟨(by first | omega | (simp only [List.length_set, List.length_append, List.length_take, List.length_drop, List.length_replicate, List.length_cons, List.length_nil, decs_length, List.length_map]; omega)), (by first | omega | (simp only [List.length_set, List.length_append, List.length_take, List.length_drop, List.length_replicate, List.length_cons, List.length_nil, decs_length, List.length_map]; omega))⟩ ?_; intro _ _; refine W_norm rfl ?_)
          | (refine W_sliceR rfl rfl rfl (by assumption) rfl ⟨(by first | omega | (simp only [List.length_set, List.length_append, List.length_take, List.length_drop, List.length_replicate, List.length_cons, List.length_nil, decs_length, List.length_map]; omega)), (by first | omega | (simp only [List.length_set, List.length_append, List.length_take, List.length_drop, List.length_replicate, List.length_cons, List.length_nil, decs_length, List.length_map]; omega)), (by first | omega | (simp only [List.length_set, List.length_append, List.length_take, List.length_drop, List.length_replicate, List.length_cons, List.length_nil, decs_length, List.length_map]; omega))⟩ ?_; intro _ _; refine W_norm rfl ?_)
          | (refine W_sliceRTo rfl rfl (by assumption) rfl ⟨(by first | omega | (simp only [List.length_set, List.length_append, List.length_take, List.length_drop, List.length_replicate, List.length_cons, List.length_nil, decs_length, List.length_map]; omega)), (by first | omega | (simp only [List.length_set, List.length_append, List.length_take, List.length_drop, List.length_replicate, List.length_cons, List.length_nil, decs_length, List.length_map]; omega))⟩ ?_; intro _ _; refine W_norm rfl ?_)
          | (refine W_sliceRFrom rfl rfl (by assumption) rfl ⟨(by first | omega | (simp only [List.length_set, List.length_append, List.length_take, List.length_drop, List.length_replicate, List.length_cons, List.length_nil, decs_length, List.length_map]; omega)), (by first | omega | (simp only [List.length_set, List.length_append, List.length_take, List.length_drop, List.length_replicate, List.length_cons, List.length_nil, decs_length, List.length_map]; omega))⟩ ?_; intro _ _; refine W_norm rfl ?_)
        )
        | (refine K_append ?_; first
          | (refine W_appS hs 0 rfl rfl (by assumption) rfl (by first | assumption | exact SlR.now hs (by assumption) | exact AccS.now (by assumption) hs (by simp) | exact OwnS.now (by assumption) hs (by simp)) rfl ⟨by decide, (by first | omega | (simp only [List.length_set, List.length_append, List.length_take, List.length_drop, List.length_replicate, List.length_cons, List.length_nil, decs_length, List.length_map]; omega))⟩ ?_; clear hs; intro _ _ _ _ hs; try simp only [cell_back, attr_back, List.set_cons_zero, List.set_cons_succ, List.eraseIdx_cons_succ, List.eraseIdx_zero, List.tail_cons, List.nil_append, List.cons_append] at hs; refine W_norm rfl ?_)
          | (refine W_appS hs 1 rfl rfl (by assumption) rfl (by first | assumption | exact SlR.now hs (by assumption) | exact AccS.now (by assumption) hs (by simp) | exact OwnS.now (by assumption) hs (by simp)) rfl ⟨by decide, (by first | omega | (simp only [List.length_set, List.length_append, List.length_take, List.length_drop, List.length_replicate, List.length_cons, List.length_nil, decs_length, List.length_map]; omega))⟩ ?_; clear hs; intro _ _ _ _ hs; try simp only [cell_back, attr_back, List.set_cons_zero, List.set_cons_succ, List.eraseIdx_cons_succ, List.eraseIdx_zero, List.tail_cons, List.nil_append, List.cons_append] at hs; refine W_norm rfl ?_)
          | (refine W_appS hs 2 rfl rfl (by assumption) rfl (by first | assumption | exact SlR.now hs (by assumption) | exact AccS.now (by assumption) hs (by simp) | exact OwnS.now (by assumption) hs (by simp)) rfl ⟨by decide, (by first | omega | (simp only [List.length_set, List.length_append, List.length_take, List.length_drop, List.length_replicate, List.length_cons, List.length_nil, decs_length, List.length_map]; omega))⟩ ?_; clear hs; intro _ _ _ _ hs; try simp only [cell_back, attr_back, List.set_cons_zero, List.set_cons_succ, List.eraseIdx_cons_succ, List.eraseIdx_zero, List.tail_cons, List.nil_append, List.cons_append] at hs; refine W_norm rfl ?_)
        )
        | (refine K_copy ?_; first
          | (refine W_copyV hs 0 rfl rfl (by first | assumption | exact VwO.whole) rfl (by first | decide | assumption) rfl (by first | omega | (simp only [List.length_set, List.length_append, List.length_take, List.length_drop, List.length_replicate, List.length_cons, List.length_nil, decs_length, List.length_map]; omega)) (by first | exact VwO.sl (by assumption) (hs.at1 0 rfl) (by first | omega | (simp only [List.length_set, List.length_append, List.length_take, List.length_drop, List.length_replicate, List.length_cons, List.length_nil, decs_length, List.length_map]; omega)) | exact VwO.sl (by assumption) (hs.at1 1 rfl) (by first | omega | (simp only [List.length_set, List.length_append, List.length_take, List.length_drop, List.length_replicate, List.length_cons, List.length_nil, decs_length, List.length_map]; omega)) | exact VwO.sl (by assumption) (hs.at1 2 rfl) (by first | omega | (simp only [List.length_set, List.length_append, List.length_take, List.length_drop, List.length_replicate, List.length_cons, List.length_nil, decs_length, List.length_map]; omega)) | assumption | exact SlR.now hs (by assumption) | exact AccS.now (by assumption) hs (by simp) | exact OwnS.now (by assumption) hs (by simp)) ?_; clear hs; intro _ hs; try simp only [cell_back, attr_back, List.set_cons_zero, List.set_cons_succ, List.eraseIdx_cons_succ, List.eraseIdx_zero, List.tail_cons, List.nil_append, List.cons_append] at hs; refine W_norm rfl ?_)
          | (refine W_copyV hs 1 rfl rfl (by first | assumption | exact VwO.whole) rfl (by first | decide | assumption) rfl (by first | omega | (simp only [List.length_set, List.length_append, List.length_take, List.length_drop, List.length_replicate, List.length_cons, List.length_nil, decs_length, List.length_map]; omega)) (by first | exact VwO.sl (by assumption) (hs.at1 1 rfl) (by first | omega | (simp only [List.length_set, List.length_append, List.length_take, List.length_drop, List.length_replicate, List.length_cons, List.length_nil, decs_length, List.length_map]; omega)) | exact VwO.sl (by assumption) (hs.at1 0 rfl) (by first | omega | (simp only [List.length_set, List.length_append, List.length_take, List.length_drop, List.length_replicate, List.length_cons, List.length_nil, decs_length, List.length_map]; omega)) | exact VwO.sl (by assumption) (hs.at1 2 rfl) (by first | omega | (simp only [List.length_set, List.length_append, List.length_take, List.length_drop, List.length_replicate, List.length_cons, List.length_nil, decs_length, List.length_map]; omega)) | assumption | exact SlR.now hs (by assumption) | exact AccS.now (by assumption) hs (by simp) | exact OwnS.now (by assumption) hs (by simp)) ?_; clear hs; intro _ hs; try simp only [cell_back, attr_back, List.set_cons_zero, List.set_cons_succ, List.eraseIdx_cons_succ, List.eraseIdx_zero, List.tail_cons, List.nil_append, List.cons_append] at hs; refine W_norm rfl ?_)
          | (refine W_copyV hs 2 rfl rfl (by first | assumption | exact VwO.whole) rfl (by first | decide | assumption) rfl (by first | omega | (simp only [List.length_set, List.length_append, List.length_take, List.length_drop, List.length_replicate, List.length_cons, List.length_nil, decs_length, List.length_map]; omega)) (by first | exact VwO.sl (by assumption) (hs.at1 2 rfl) (by first | omega | (simp only [List.length_set, List.length_append, List.length_take, List.length_drop, List.length_replicate, List.length_cons, List.length_nil, decs_length, List.length_map]; omega)) | exact VwO.sl (by assumption) (hs.at1 0 rfl) (by first | omega | (simp only [List.length_set, List.length_append, List.length_take, List.length_drop, List.length_replicate, List.length_cons, List.length_nil, decs_length, List.length_map]; omega)) | exact VwO.sl (by assumption) (hs.at1 1 rfl) (by first | omega | (simp only [List.length_set, List.length_append, List.length_take, List.length_drop, List.length_replicate, List.length_cons, List.length_nil, decs_length, List.length_map]; omega)) | assumption | exact SlR.now hs (by assumption) | exact AccS.now (by assumption) hs (by simp) | exact OwnS.now (by assumption) hs (by simp)) ?_; clear hs; intro _ hs; try simp only [cell_back, attr_back, List.set_cons_zero, List.set_cons_succ, List.eraseIdx_cons_succ, List.eraseIdx_zero, List.tail_cons, List.nil_append, List.cons_append] at hs; refine W_norm rfl ?_)
        )
        | (refine W_buildN rfl ?_; refine W_norm rfl ?_)
        | (refine W_min2 rfl rfl ?_; refine W_norm rfl ?_)
        | (refine W_max2 rfl rfl ?_; refine W_norm rfl ?_)
        | (refine W_convint rfl (IntWalk.i64_in _ (by omega)) ?_; refine W_norm rfl ?_)
        | (refine W_convint rfl (IntWalk.i32_in _ (by omega)) ?_; refine W_norm rfl ?_)
        | (refine W_convint rfl (IntWalk.u8_in _ (by omega)) ?_; refine W_norm rfl ?_)
        | (refine W_sliceStr rfl rfl rfl ⟨(by first | omega | (simp only [List.length_set, List.length_append, List.length_take, List.length_drop, List.length_replicate, List.length_cons, List.length_nil, decs_length, List.length_map]; omega)), (by first | omega | (simp only [List.length_set, List.length_append, List.length_take, List.length_drop, List.length_replicate, List.length_cons, List.length_nil, decs_length, List.length_map]; omega)), (by first | omega | (simp only [List.length_set, List.length_append, List.length_take, List.length_drop, List.length_replicate, List.length_cons, List.length_nil, decs_length, List.length_map]; omega))⟩ ?_; refine W_norm rfl ?_)
        | (refine W_sliceStrTo rfl rfl ⟨(by first | omega | (simp only [List.length_set, List.length_append, List.length_take, List.length_drop, List.length_replicate, List.length_cons, List.length_nil, decs_length, List.length_map]; omega)), (by first | omega | (simp only [List.length_set, List.length_append, List.length_take, List.length_drop, List.length_replicate, List.length_cons, List.length_nil, decs_length, List.length_map]; omega))⟩ ?_; refine W_norm rfl ?_)
        | (refine W_sliceStrFrom rfl rfl ⟨(by first | omega | (simp only [List.length_set, List.length_append, List.length_take, List.length_drop, List.length_replicate, List.length_cons, List.length_nil, decs_length, List.length_map]; omega)), (by first | omega | (simp only [List.length_set, List.length_append, List.length_take, List.length_drop, List.length_replicate, List.length_cons, List.length_nil, decs_length, List.length_map]; omega))⟩ ?_; refine W_norm rfl ?_)
        | (refine W_ptrUnsafe hs 0 rfl rfl rfl ?_; refine W_norm rfl ?_)
        | (refine W_ptrUnsafe hs 1 rfl rfl rfl ?_; refine W_norm rfl ?_)
        | (refine W_ptrUnsafe hs 2 rfl rfl rfl ?_; refine W_norm rfl ?_)
        | (refine W_unsafePtr hs 0 rfl rfl rfl ?_; refine W_norm rfl ?_)
        | (refine W_unsafePtr hs 1 rfl rfl rfl ?_; refine W_norm rfl ?_)
        | (refine W_unsafePtr hs 2 rfl rfl rfl ?_; refine W_norm rfl ?_)
        | (refine W_usliceN rfl ?_; refine W_norm rfl ?_)
        | (refine W_usliceS rfl (by first | assumption | omega) ?_; refine W_norm rfl ?_)
        | (refine W_ustringN rfl rfl ?_; refine W_norm rfl ?_)
        | (refine W_ustringS hs 0 rfl rfl rfl (by first | decide | assumption) ⟨by omega, by omega⟩ (by assumption) (by assumption) ?_; clear hs; intro _ hs; try simp only [cell_back, attr_back, List.set_cons_zero, List.set_cons_succ, List.eraseIdx_cons_succ, List.eraseIdx_zero, List.tail_cons, List.nil_append, List.cons_append] at hs; refine W_norm rfl ?_)
        | (refine W_ustringS hs 1 rfl rfl rfl (by first | decide | assumption) ⟨by omega, by omega⟩ (by assumption) (by assumption) ?_; clear hs; intro _ hs; try simp only [cell_back, attr_back, List.set_cons_zero, List.set_cons_succ, List.eraseIdx_cons_succ, List.eraseIdx_zero, List.tail_cons, List.nil_append, List.cons_append] at hs; refine W_norm rfl ?_)
        | (refine W_ustringS hs 2 rfl rfl rfl (by first | decide | assumption) ⟨by omega, by omega⟩ (by assumption) (by assumption) ?_; clear hs; intro _ hs; try simp only [cell_back, attr_back, List.set_cons_zero, List.set_cons_succ, List.eraseIdx_cons_succ, List.eraseIdx_zero, List.tail_cons, List.nil_append, List.cons_append] at hs; refine W_norm rfl ?_)
        | (refine W_convint rfl rfl ?_; refine W_norm rfl ?_)
        | refine W_indexArr rfl rfl ⟨by omega, by omega⟩ (W_norm rfl ?_)
        | (refine W_idxStr rfl rfl ⟨(by first | omega | (simp only [List.length_set, List.length_append, List.length_take, List.length_drop, List.length_replicate, List.length_cons, List.length_nil, decs_length, List.length_map]; omega)), (by first | omega | (simp only [List.length_set, List.length_append, List.length_take, List.length_drop, List.length_replicate, List.length_cons, List.length_nil, decs_length, List.length_map]; omega))⟩ ?_; refine W_norm rfl ?_)
      )
      | (refine K_code ?_; first
        | refine W_seq ?_
        | refine W_ops ?_
        | refine W_cond_t rfl ?_
        | refine W_cond_f rfl ?_
        | (refine W_cond rfl (fun hc => ?_) (fun hc => ?_) <;> (try rw [hc]) <;> (try simp only [decide_eq_true_eq, decide_eq_false_iff_not, beq_iff_eq, beq_eq_false_iff_ne, bne_iff_ne, bne_eq_false_iff_eq, Bool.not_eq_true', Bool.not_eq_false', Int.not_lt, Int.not_le, ne_eq, reduceCtorEq, not_true_eq_false, not_false_eq_true, Decidable.not_not] at hc) <;> (try (exfalso; omega)) <;> (try refine W_norm rfl ?_))
        | refine W_skip ?_
        | refine W_ret ?_
        | refine W_exit ?_
        | refine W_block ?_
        | refine W_draw rfl ?_
      )
      | refine seqK_n ?_
      | refine seqK_r ?_
      | refine seqK_x ?_
      | refine blockK_r ?_
      | refine blockK_n ?_
      | refine blockK_e ?_
      | refine blockK_x rfl ?_
      | refine loopK_x ?_
      | refine loopK_r ?_
      | refine invK_x ?_
      | refine invK_r ?_
      | refine invK_n ?_
      | refine midK_n ?_
      | refine midK_x ?_
      | refine midK_r ?_
      | (refine fnK_cellS hs 0 rfl rfl rfl rfl ?_)
      | (refine fnK_cellS hs 1 rfl rfl rfl rfl ?_)
      | (refine fnK_cellS hs 2 rfl rfl rfl rfl ?_)
      | (refine fnK_cellT hs 0 rfl rfl rfl rfl rfl rfl ?_)
      | (refine fnK_cellT hs 1 rfl rfl rfl rfl rfl rfl ?_)
      | (refine fnK_cellT hs 2 rfl rfl rfl rfl rfl rfl ?_)
      | (refine fnK_r rfl ?_; try dsimp only [gd_z, gd_s])
      | (refine fnK_n rfl ?_; try dsimp only [gd_z, gd_s]))
    generalize hbx : bx = b1 at *
    refine W_loopB [9, 43, 44, 45, 46, 47, 48, 49, 50, 51, 52, 53] [0, 1, 2, 3, 4, 5, 6, 7, 8, 9, 10, 11, 12, 13, 14, 15, 16, 17, 18, 19, 20, 21, 22, 23, 24, 25, 26, 27, 28, 29, 30, 31, 32, 33, 34, 35, 36, 37, 38, 39, 40, 41, 42, 43, 44, 45, 46, 47, 48, 49, 50, 51, 52, 53, 54, 55, 56, 57, 58, 59, 60, 61, 62, 63, 64, 65, 66, 67, 68] (fun n' sl h' => ∃ (i : Nat), sl = [(9, .sc (.int .i64 (i : Int)))] ∧ n' = a.length - i ∧ i ≤ a.length ∧ Sep (Now h5) [[(b1, .cells 28 .own (encD (runP dec0 (a.take i)).1))]] h') ?_ ?_
    · refine ⟨_, _, ⟨0, rfl, rfl, Nat.zero_le _, hs⟩, EnvB.of rfl⟩
    clear hs
    rintro _ _ us _ h6 ⟨i, rfl, rfl, hi, hs⟩ he
    refine W_spell he rfl ?_
    clear he
    unfold m8_l10
    by_cases hlt : i < a.length
    · have hrp := runP_take (d := dec0) hlt
      have hb : 0 ≤ ((a.getD i 0).toNat : Int) ∧ ((a.getD i 0).toNat : Int) < 256 := ⟨by omega, by have := (a.getD i 0).toNat_lt; omega⟩
      have hok := run_ok (a.take i)
      repeat' (first
        | (refine K_ops ?_; first
          | refine W_fastB rfl ?_
          | refine W_nil ?_
          | (refine K_guard ?_; first
            | refine W_guard_on rfl ?_
            | refine W_guard_off rfl rfl (W_norm rfl ?_)
            | refine W_guard_u rfl (W_norm rfl ?_)
            | (refine W_guardT rfl (fun hc => ?_) (fun hc => ?_) <;> (try rw [hc]) <;> (try simp only [decide_eq_true_eq, decide_eq_false_iff_not, beq_iff_eq, beq_eq_false_iff_ne, bne_iff_ne, bne_eq_false_iff_eq, Bool.not_eq_true', Bool.not_eq_false', Int.not_lt, Int.not_le, ne_eq, reduceCtorEq, not_true_eq_false, not_false_eq_true, Decidable.not_not] at hc) <;> (try (exfalso; omega)) <;> (try refine W_norm rfl ?_))
            | (refine W_guardF rfl (fun hc => ?_) (fun hc => ?_) <;> (try rw [hc]) <;> (try simp only [decide_eq_true_eq, decide_eq_false_iff_not, beq_iff_eq, beq_eq_false_iff_ne, bne_iff_ne, bne_eq_false_iff_eq, Bool.not_eq_true', Bool.not_eq_false', Int.not_lt, Int.not_le, ne_eq, reduceCtorEq, not_true_eq_false, not_false_eq_true, Decidable.not_not] at hc) <;> (try (exfalso; omega)) <;> (try refine W_norm rfl ?_))
          )
          | (refine K_call ?_; first
            | (refine W_callsN 12 rfl (w12s (b := ((a.getD i 0).toNat : Int)) hs hb hok) rfl ?_; rintro _ h7 ⟨rfl, hs2⟩; replace hs := hs2; clear hs2; rw [outA_eqj]; refine W_norm rfl ?_)
          )
          | (refine W_lenL rfl (by first | assumption | exact SlR.ln (by assumption) | exact AccS.ln (by assumption) | exact OwnS.ln (by assumption) | exact VwO.ln (by assumption) | exact OwnP.ln (by assumption) | exact Len.sl) ?_; refine W_norm rfl ?_)
          | (refine K_bin ?_; first
            | (refine W_add rfl rfl (IntWalk.i64_in _ (by first | omega | (simp only [List.length_set, List.length_append, List.length_take, List.length_drop, List.length_replicate, List.length_cons, List.length_nil, decs_length, List.length_map]; omega))) ?_; refine W_norm rfl ?_)
            | (refine W_add rfl rfl (IntWalk.i32_in _ (by first | omega | (simp only [List.length_set, List.length_append, List.length_take, List.length_drop, List.length_replicate, List.length_cons, List.length_nil, decs_length, List.length_map]; omega))) ?_; refine W_norm rfl ?_)
            | (refine W_add rfl rfl (IntWalk.u8_in _ (by first | omega | (simp only [List.length_set, List.length_append, List.length_take, List.length_drop, List.length_replicate, List.length_cons, List.length_nil, decs_length, List.length_map]; omega))) ?_; refine W_norm rfl ?_)
            | (refine W_sub rfl rfl (IntWalk.i64_in _ (by first | omega | (simp only [List.length_set, List.length_append, List.length_take, List.length_drop, List.length_replicate, List.length_cons, List.length_nil, decs_length, List.length_map]; omega))) ?_; refine W_norm rfl ?_)
            | (refine W_sub rfl rfl (IntWalk.i32_in _ (by first | omega | (simp only [List.length_set, List.length_append, List.length_take, List.length_drop, List.length_replicate, List.length_cons, List.length_nil, decs_length, List.length_map]; omega))) ?_; refine W_norm rfl ?_)
            | (refine W_sub rfl rfl (IntWalk.u8_in _ (by first | omega | (simp only [List.length_set, List.length_append, List.length_take, List.length_drop, List.length_replicate, List.length_cons, List.length_nil, decs_length, List.length_map]; omega))) ?_; refine W_norm rfl ?_)
            | (refine W_mul rfl rfl (IntWalk.i64_in _ (by first | omega | (simp only [List.length_set, List.length_append, List.length_take, List.length_drop, List.length_replicate, List.length_cons, List.length_nil, decs_length, List.length_map]; omega))) ?_; refine W_norm rfl ?_)
            | (refine W_mul rfl rfl (IntWalk.i32_in _ (by first | omega | (simp only [List.length_set, List.length_append, List.length_take, List.length_drop, List.length_replicate, List.length_cons, List.length_nil, decs_length, List.length_map]; omega))) ?_; refine W_norm rfl ?_)
            | (refine W_mul rfl rfl (IntWalk.u8_in _ (by first | omega | (simp only [List.length_set, List.length_append, List.length_take, List.length_drop, List.length_replicate, List.length_cons, List.length_nil, decs_length, List.length_map]; omega))) ?_; refine W_norm rfl ?_)
            | (refine W_div rfl rfl (by omega) ?_; refine W_norm rfl ?_)
            | (refine W_mod rfl rfl (by omega) ?_; refine W_norm rfl ?_)
            | (refine W_cat rfl rfl (by first | omega | (simp only [List.length_set, List.length_append, List.length_take, List.length_drop, List.length_replicate, List.length_cons, List.length_nil, decs_length, List.length_map]; omega)) ?_; refine W_norm rfl ?_)
            | (refine W_nilSl_t rfl rfl rfl ?_; refine W_norm rfl ?_)
            | (refine W_nilSl_f rfl rfl rfl ?_; refine W_norm rfl ?_)
            | (refine W_nilSl_e rfl rfl rfl ?_; refine W_norm rfl ?_)
            | (refine W_nil_ptr_f rfl rfl rfl ?_; refine W_norm rfl ?_)
            | (refine W_nil_ptr_t rfl rfl rfl ?_; refine W_norm rfl ?_)
            | (refine W_nePtrSame rfl rfl rfl ?_; refine W_norm rfl ?_)
            | (refine W_shr rfl rfl (by decide) ?_; refine W_norm rfl ?_)
            | (refine W_and rfl rfl ?_; refine W_norm rfl ?_)
            | (refine W_or rfl rfl ?_; refine W_norm rfl ?_)
            | (refine W_add rfl rfl rfl ?_; refine W_norm rfl ?_)
            | (refine W_sub rfl rfl rfl ?_; refine W_norm rfl ?_)
            | (refine W_mul rfl rfl rfl ?_; refine W_norm rfl ?_)
          )
          | (refine K_pick ?_; first
            | refine W_pick_t rfl rfl (W_norm rfl ?_)
            | refine W_pick_f rfl rfl (W_norm rfl ?_)
            | (refine W_pick rfl (fun hc => ?_) (fun hc => ?_) <;> (try rw [hc]) <;> (try simp only [decide_eq_true_eq, decide_eq_false_iff_not, beq_iff_eq, beq_eq_false_iff_ne, bne_iff_ne, bne_eq_false_iff_eq, Bool.not_eq_true', Bool.not_eq_false', Int.not_lt, Int.not_le, ne_eq, reduceCtorEq, not_true_eq_false, not_false_eq_true, Decidable.not_not] at hc) <;> (try (exfalso; omega)) <;> (try refine W_norm rfl ?_))
          )
          | (refine K_index ?_; first
            | (refine W_indexO rfl rfl ⟨(by first | omega | (simp only [List.length_set, List.length_append, List.length_take, List.length_drop, List.length_replicate, List.length_cons, List.length_nil, decs_length, List.length_map]; omega)), (by first | omega | (simp only [List.length_set, List.length_append, List.length_take, List.length_drop, List.length_replicate, List.length_cons, List.length_nil, decs_length, List.length_map]; omega))⟩ ?_; refine W_norm rfl ?_)
            | (refine W_indexVw rfl rfl (by assumption) ⟨(by first | omega | (simp only [List.length_set, List.length_append, List.length_take, List.length_drop, List.length_replicate, List.length_cons, List.length_nil, decs_length, List.length_map]; omega)), (by first | omega | (simp only [List.length_set, List.length_append, List.length_take, List.length_drop, List.length_replicate, List.length_cons, List.length_nil, decs_length, List.length_map]; omega))⟩ ?_; refine W_norm rfl ?_)
            | (refine W_indexV rfl rfl ⟨(by first | omega | (simp only [List.length_set, List.length_append, List.length_take, List.length_drop, List.length_replicate, List.length_cons, List.length_nil, decs_length, List.length_map]; omega)), (by first | omega | (simp only [List.length_set, List.length_append, List.length_take, List.length_drop, List.length_replicate, List.length_cons, List.length_nil, decs_length, List.length_map]; omega))⟩ ?_; refine W_norm rfl ?_)
            | (refine W_indexR rfl rfl (by assumption) rfl ⟨(by first | omega | (simp only [List.length_set, List.length_append, List.length_take, List.length_drop, List.length_replicate, List.length_cons, List.length_nil, decs_length, List.length_map]; omega)), (by first | omega | (simp only [List.length_set, List.length_append, List.length_take, List.length_drop, List.length_replicate, List.length_cons, List.length_nil, decs_length, List.length_map]; omega))⟩ ?_; intro _ _ _; refine W_norm rfl ?_)
          )
          | (refine K_load ?_; first
            | (refine W_loadR hs rfl (by assumption) rfl ?_; refine W_norm rfl ?_)
            | (refine W_loadRF hs rfl (by assumption) rfl ?_; refine W_norm rfl ?_)
            | (refine W_loadRA hs rfl (by assumption) rfl ?_; refine W_norm rfl ?_)
            | (refine W_loadRP hs rfl (by assumption) rfl ?_; refine W_norm rfl ?_)
            | (refine W_loadO hs 0 rfl rfl rfl (by first | omega | (simp only [List.length_set, List.length_append, List.length_take, List.length_drop, List.length_replicate, List.length_cons, List.length_nil, decs_length, List.length_map]; omega)) rfl ?_; refine W_norm rfl ?_)
            | (refine W_loadOF hs 0 rfl rfl rfl (by first | omega | (simp only [List.length_set, List.length_append, List.length_take, List.length_drop, List.length_replicate, List.length_cons, List.length_nil, decs_length, List.length_map]; omega)) rfl ?_; refine W_norm rfl ?_)
            | (refine W_loadOA hs 0 rfl rfl rfl (by first | omega | (simp only [List.length_set, List.length_append, List.length_take, List.length_drop, List.length_replicate, List.length_cons, List.length_nil, decs_length, List.length_map]; omega)) ?_; refine W_norm rfl ?_)
            | (refine W_loadOP hs 0 rfl rfl rfl (by first | omega | (simp only [List.length_set, List.length_append, List.length_take, List.length_drop, List.length_replicate, List.length_cons, List.length_nil, decs_length, List.length_map]; omega)) rfl ?_; refine W_norm rfl ?_)
            | (refine W_loadC hs 0 rfl rfl rfl ?_; refine W_norm rfl ?_)
            | (refine W_loadCA hs 0 rfl rfl rfl ?_; refine W_norm rfl ?_)
            | (refine W_loadO hs 1 rfl rfl rfl (by first | omega | (simp only [List.length_set, List.length_append, List.length_take, List.length_drop, List.length_replicate, List.length_cons, List.length_nil, decs_length, List.length_map]; omega)) rfl ?_; refine W_norm rfl ?_)
            | (refine W_loadOF hs 1 rfl rfl rfl (by first | omega | (simp only [List.length_set, List.length_append, List.length_take, List.length_drop, List.length_replicate, List.length_cons, List.length_nil, decs_length, List.length_map]; omega)) rfl ?_; refine W_norm rfl ?_)
            | (refine W_loadOA hs 1 rfl rfl rfl (by first | omega | (simp only [List.length_set, List.length_append, List.length_take, List.length_drop, List.length_replicate, List.length_cons, List.length_nil, decs_length, List.length_map]; omega)) ?_; refine W_norm rfl ?_)
            | (refine W_loadOP hs 1 rfl rfl rfl (by first | omega | (simp only [List.length_set, List.length_append, List.length_take, List.length_drop, List.length_replicate, List.length_cons, List.length_nil, decs_length, List.length_map]; omega)) rfl ?_; refine W_norm rfl ?_)
            | (refine W_loadC hs 1 rfl rfl rfl ?_; refine W_norm rfl ?_)
            | (refine W_loadCA hs 1 rfl rfl rfl ?_; refine W_norm rfl ?_)
          )
          | (refine K_store ?_; first
            | (refine W_storeO hs 0 rfl rfl rfl rfl rfl (by first | omega | (simp only [List.length_set, List.length_append, List.length_take, List.length_drop, List.length_replicate, List.length_cons, List.length_nil, decs_length, List.length_map]; omega)) (by first | decide | assumption) rfl ?_; clear hs; intro _ hs; try simp only [cell_back, attr_back, List.set_cons_zero, List.set_cons_succ, List.eraseIdx_cons_succ, List.eraseIdx_zero, List.tail_cons, List.nil_append, List.cons_append] at hs; refine W_norm rfl ?_)
            | (refine W_storeOF hs 0 rfl rfl rfl rfl rfl (by first | omega | (simp only [List.length_set, List.length_append, List.length_take, List.length_drop, List.length_replicate, List.length_cons, List.length_nil, decs_length, List.length_map]; omega)) (by first | decide | assumption) rfl rfl rfl rfl ?_; clear hs; intro _ hs; try simp only [cell_back, attr_back, List.set_cons_zero, List.set_cons_succ, List.eraseIdx_cons_succ, List.eraseIdx_zero, List.tail_cons, List.nil_append, List.cons_append] at hs; refine W_norm rfl ?_)
            | (refine W_storeC hs 0 rfl rfl rfl rfl (by first | decide | assumption) rfl rfl ?_; clear hs; intro _ hs; try simp only [cell_back, attr_back, List.set_cons_zero, List.set_cons_succ, List.eraseIdx_cons_succ, List.eraseIdx_zero, List.tail_cons, List.nil_append, List.cons_append] at hs; refine W_norm rfl ?_)
            | (refine W_storeO hs 1 rfl rfl rfl rfl rfl (by first | omega | (simp only [List.length_set, List.length_append, List.length_take, List.length_drop, List.length_replicate, List.length_cons, List.length_nil, decs_length, List.length_map]; omega)) (by first | decide | assumption) rfl ?_; clear hs; intro _ hs; try simp only [cell_back, attr_back, List.set_cons_zero, List.set_cons_succ, List.eraseIdx_cons_succ, List.eraseIdx_zero, List.tail_cons, List.nil_append, List.cons_append] at hs; refine W_norm rfl ?_)
            | (refine W_storeOF hs 1 rfl rfl rfl rfl rfl (by first | omega | (simp only [List.length_set, List.length_append, List.length_take, List.length_drop, List.length_replicate, List.length_cons, List.length_nil, decs_length, List.length_map]; omega)) (by first | decide | assumption) rfl rfl rfl rfl ?_; clear hs; intro _ hs; try simp only [cell_back, attr_back, List.set_cons_zero, List.set_cons_succ, List.eraseIdx_cons_succ, List.eraseIdx_zero, List.tail_cons, List.nil_append, List.cons_append] at hs; refine W_norm rfl ?_)
            | (refine W_storeC hs 1 rfl rfl rfl rfl (by first | decide | assumption) rfl rfl ?_; clear hs; intro _ hs; try simp only [cell_back, attr_back, List.set_cons_zero, List.set_cons_succ, List.eraseIdx_cons_succ, List.eraseIdx_zero, List.tail_cons, List.nil_append, List.cons_append] at hs; refine W_norm rfl ?_)
          )
          | (refine W_allocS hs ?_; clear hs; intro al _ hs; try simp only [cell_back, attr_back, List.set_cons_zero, List.set_cons_succ, List.eraseIdx_cons_succ, List.eraseIdx_zero, List.tail_cons, List.nil_append, List.cons_append] at hs; refine W_norm rfl ?_)
          | (refine W_boxS hs rfl rfl ?_; clear hs; intro bx _ hs; try simp only [cell_back, attr_back, List.set_cons_zero, List.set_cons_succ, List.eraseIdx_cons_succ, List.eraseIdx_zero, List.tail_cons, List.nil_append, List.cons_append] at hs; refine W_norm rfl ?_)
          | (refine K_slice ?_; first
            | (refine W_sliceO0 rfl rfl rfl (by first | omega | (simp only [List.length_set, List.length_append, List.length_take, List.length_drop, List.length_replicate, List.length_cons, List.length_nil, decs_length, List.length_map]; omega)) ⟨(by first | omega | (simp only [List.length_set, List.length_append, List.length_take, List.length_drop, List.length_replicate, List.length_cons, List.length_nil, decs_length, List.length_map]; omega)), (by first | omega | (simp only [List.length_set, List.length_append, List.length_take, List.length_drop, List.length_replicate, List.length_cons, List.length_nil, decs_length, List.length_map]; omega)), (by first | omega | (simp only [List.length_set, List.length_append, List.length_take, List.length_drop, List.length_replicate, List.length_cons, List.length_nil, decs_length, List.length_map]; omega))⟩ ?_; intro _ _; refine W_norm rfl ?_)
            | (refine W_sliceO0To rfl rfl (by first | omega | (simp only [List.length_set, List.length_append, List.length_take, List.length_drop, List.length_replicate, List.length_cons, List.length_nil, decs_length, List.length_map]; omega)) ⟨(by first | omega | (simp only [List.length_set, List.length_append, List.length_take, List.length_drop, List.length_replicate, List.length_cons, List.length_nil, decs_length, List.length_map]; omega)), (by first | omega | (simp only [List.length_set, List.length_append, List.length_take, List.length_drop, List.length_replicate, List.length_cons, List.length_nil, decs_length, List.length_map]; omega))⟩ ?_; intro _ _; refine W_norm rfl ?_)
            | (refine W_sliceO0From rfl rfl (by first | omega | (simp only [List.length_set, List.length_append, List.length_take, List.length_drop, List.length_replicate, List.length_cons, List.length_nil, decs_length, List.length_map]; omega)) ⟨(by first | omega | (simp only [List.length_set, List.length_append, List.length_take, List.length_drop, List.length_replicate, List.length_cons, List.length_nil, decs_length, List.length_map]; omega)), (by first | omega | (simp only [List.length_set, List.length_append, List.length_take, List.length_drop, List.length_replicate, List.length_cons, List.length_nil, decs_length, List.length_map]; omega))⟩ ?_; intro _ _; refine W_norm rfl ?_)
            | (refine W_sliceR rfl rfl rfl (by assumption) rfl ⟨(by first | omega | (simp only [List.length_set, List.length_append, List.length_take, List.length_drop, List.length_replicate, List.length_cons, List.length_nil, decs_length, List.length_map]; omega)), (by first | omega | (simp only [List.length_set, List.length_append, List.length_take, List.length_drop, List.length_replicate, List.length_cons, List.length_nil, decs_length, List.length_map]; omega)), (by first | omega | (simp only [List.length_set, List.length_append, List.length_take, List.length_drop, List.length_replicate, List.length_cons, List.length_nil, decs_length, List.length_map]; omega))⟩ ?_; intro _ _; refine W_norm rfl ?_)
            | (refine W_sliceRTo rfl rfl (by assumption) rfl ⟨(by first | omega | (simp only [List.length_set, List.length_append, List.length_take, List.length_drop, List.length_replicate, List.length_cons, List.length_nil, decs_length, List.length_map]; omega)), (by first | omega | (simp only [List.length_set, List.length_append, List.length_take, List.length_drop, List.length_replicate, List.length_cons, List.length_nil, decs_length, List.length_map]; omega))⟩ ?_; intro _ _; refine W_norm rfl ?_)
            | (refine W_sliceRFrom rfl rfl (by assumption) rfl ⟨(by first | omega | (simp only [List.length_set, List.length_append, List.length_take, List.length_drop, List.length_replicate, List.length_cons, List.length_nil, decs_length, List.length_map]; omega)), (by first | omega | (simp only [List.length_set, List.length_append, List.length_take, List.length_drop, List.length_replicate, List.length_cons, List.length_nil, decs_length, List.length_map]; omega))⟩ ?_; intro _ _; refine W_norm rfl ?_)
          )
          | (refine K_append ?_; first
            | (refine W_appS hs 0 rfl rfl (by assumption) rfl (by first | assumption | exact SlR.now hs (by assumption) | exact AccS.now (by assumption) hs (by simp) | exact OwnS.now (by assumption) hs (by simp)) rfl ⟨by decide, (by first | omega | (simp only [List.length_set, List.length_append, List.length_take, List.length_drop, List.length_replicate, List.length_cons, List.length_nil, decs_length, List.length_map]; omega))⟩ ?_; clear hs; intro _ _ _ _ hs; try simp only [cell_back, attr_back, List.set_cons_zero, List.set_cons_succ, List.eraseIdx_cons_succ, List.eraseIdx_zero, List.tail_cons, List.nil_append, List.cons_append] at hs; refine W_norm rfl ?_)
            | (refine W_appS hs 1 rfl rfl (by assumption) rfl (by first | assumption | exact SlR.now hs (by assumption) | exact AccS.now (by assumption) hs (by simp) | exact OwnS.now (by assumption) hs (by simp)) rfl ⟨by decide, (by first | omega | (simp only [List.length_set, List.length_append, List.length_take, List.length_drop, List.length_replicate, List.length_cons, List.length_nil, decs_length, List.length_map]; omega))⟩ ?_; clear hs; intro _ _ _ _ hs; try simp only [cell_back, attr_back, List.set_cons_zero, List.set_cons_succ, List.eraseIdx_cons_succ, List.eraseIdx_zero, List.tail_cons, List.nil_append, List.cons_append] at hs; refine W_norm rfl ?_)
          )
          | (refine K_copy ?_; first
            | (refine W_copyV hs 0 rfl rfl (by first | assumption | exact VwO.whole) rfl (by first | decide | assumption) rfl (by first | omega | (simp only [List.length_set, List.length_append, List.length_take, List.length_drop, List.length_replicate, List.length_cons, List.length_nil, decs_length, List.length_map]; omega)) (by first | exact VwO.sl (by assumption) (hs.at1 0 rfl) (by first | omega | (simp only [List.length_set, List.length_append, List.length_take, List.length_drop, List.length_replicate, List.length_cons, List.length_nil, decs_length, List.length_map]; omega)) | exact VwO.sl (by assumption) (hs.at1 1 rfl) (by first | omega | (simp only [List.length_set, List.length_append, List.length_take, List.length_drop, List.length_replicate, List.length_cons, List.length_nil, decs_length, List.length_map]; omega)) | assumption | exact SlR.now hs (by assumption) | exact AccS.now (by assumption) hs (by simp) | exact OwnS.now (by assumption) hs (by simp)) ?_; clear hs; intro _ hs; try simp only [cell_back, attr_back, List.set_cons_zero, List.set_cons_succ, List.eraseIdx_cons_succ, List.eraseIdx_zero, List.tail_cons, List.nil_append, List.cons_append] at hs; refine W_norm rfl ?_)
            | (refine W_copyV hs 1 rfl rfl (by first | assumption | exact VwO.whole) rfl (by first | decide | assumption) rfl (by first | omega | (simp only [List.length_set, List.length_append, List.length_take, List.length_drop, List.length_replicate, List.length_cons, List.length_nil, decs_length, List.length_map]; omega)) (by first | exact VwO.sl (by assumption) (hs.at1 1 rfl) (by first | omega | (simp only [List.length_set, List.length_append, List.length_take, List.length_drop, List.length_replicate, List.length_cons, List.length_nil, decs_length, List.length_map]; omega)) | exact VwO.sl (by assumption) (hs.at1 0 rfl) (by first | omega | (simp only [List.length_set, List.length_append, List.length_take, List.length_drop, List.length_replicate, List.length_cons, List.length_nil, decs_length, List.length_map]; omega)) | assumption | exact SlR.now hs (by assumption) | exact AccS.now (by assumption) hs (by simp) | exact OwnS.now (by assumption) hs (by simp)) ?_; clear hs; intro _ hs; try simp only [cell_back, attr_back, List.set_cons_zero, List.set_cons_succ, List.eraseIdx_cons_succ, List.eraseIdx_zero, List.tail_cons, List.nil_append, List.cons_append] at hs; refine W_norm rfl ?_)
          )
          | (refine W_buildN rfl ?_; refine W_norm rfl ?_)
          | (refine W_min2 rfl rfl ?_; refine W_norm rfl ?_)
          | (refine W_max2 rfl rfl ?_; refine W_norm rfl ?_)
          | (refine W_convint rfl (IntWalk.i64_in _ (by omega)) ?_; refine W_norm rfl ?_)
          | (refine W_convint rfl (IntWalk.i32_in _ (by omega)) ?_; refine W_norm rfl ?_)
          | (refine W_convint rfl (IntWalk.u8_in _ (by omega)) ?_; refine W_norm rfl ?_)
          | (refine W_sliceStr rfl rfl rfl ⟨(by first | omega | (simp only [List.length_set, List.length_append, List.length_take, List.length_drop, List.length_replicate, List.length_cons, List.length_nil, decs_length, List.length_map]; omega)), (by first | omega | (simp only [List.length_set, List.length_append, List.length_take, List.length_drop, List.length_replicate, List.length_cons, List.length_nil, decs_length, List.length_map]; omega)), (by first | omega | (simp only [List.length_set, List.length_append, List.length_take, List.length_drop, List.length_replicate, List.length_cons, List.length_nil, decs_length, List.length_map]; omega))⟩ ?_; refine W_norm rfl ?_)
          | (refine W_sliceStrTo rfl rfl ⟨(by first | omega | (simp only [List.length_set, List.length_append, List.length_take, List.length_drop, List.length_replicate, List.length_cons, List.length_nil, decs_length, List.length_map]; omega)), (by first | omega | (simp only [List.length_set, List.length_append, List.length_take, List.length_drop, List.length_replicate, List.length_cons, List.length_nil, decs_length, List.length_map]; omega))⟩ ?_; refine W_norm rfl ?_)
          | (refine W_sliceStrFrom rfl rfl ⟨(by first | omega | (simp only [List.length_set, List.length_append, List.length_take, List.length_drop, List.length_replicate, List.length_cons, List.length_nil, decs_length, List.length_map]; omega)), (by first | omega | (simp only [List.length_set, List.length_append, List.length_take, List.length_drop, List.length_replicate, List.length_cons, List.length_nil, decs_length, List.length_map]; omega))⟩ ?_; refine W_norm rfl ?_)
          | (refine W_ptrUnsafe hs 0 rfl rfl rfl ?_; refine W_norm rfl ?_)
          | (refine W_ptrUnsafe hs 1 rfl rfl rfl ?_; refine W_norm rfl ?_)
          | (refine W_unsafePtr hs 0 rfl rfl rfl ?_; refine W_norm rfl ?_)
          | (refine W_unsafePtr hs 1 rfl rfl rfl ?_; refine W_norm rfl ?_)
          | (refine W_usliceN rfl ?_; refine W_norm rfl ?_)
          | (refine W_usliceS rfl (by first | assumption | omega) ?_; refine W_norm rfl ?_)
          | (refine W_ustringN rfl rfl ?_; refine W_norm rfl ?_)
          | (refine W_ustringS hs 0 rfl rfl rfl (by first | decide | assumption) ⟨by omega, by omega⟩ (by assumption) (by assumption) ?_; clear hs; intro _ hs; try simp only [cell_back, attr_back, List.set_cons_zero, List.set_cons_succ, List.eraseIdx_cons_succ, List.eraseIdx_zero, List.tail_cons, List.nil_append, List.cons_append] at hs; refine W_norm rfl ?_)
          | (refine W_ustringS hs 1 rfl rfl rfl (by first | decide | assumption) ⟨by omega, by omega⟩ (by assumption) (by assumption) ?_; clear hs; intro _ hs; try simp only [cell_back, attr_back, List.set_cons_zero, List.set_cons_succ, List.eraseIdx_cons_succ, List.eraseIdx_zero, List.tail_cons, List.nil_append, List.cons_append] at hs; refine W_norm rfl ?_)
          | (refine W_convint rfl rfl ?_; refine W_norm rfl ?_)
          | refine W_indexArr rfl rfl ⟨by omega, by omega⟩ (W_norm rfl ?_)
          | (refine W_idxStr rfl rfl ⟨(by first | omega | (simp only [List.length_set, List.length_append, List.length_take, List.length_drop, List.length_replicate, List.length_cons, List.length_nil, decs_length, List.length_map]; omega)), (by first | omega | (simp only [List.length_set, List.length_append, List.length_take, List.length_drop, List.length_replicate, List.length_cons, List.length_nil, decs_length, List.length_map]; omega))⟩ ?_; refine W_norm rfl ?_)
        )
        | (refine K_code ?_; first
          | refine W_seq ?_
          | refine W_ops ?_
          | refine W_cond_t rfl ?_
          | refine W_cond_f rfl ?_
          | (refine W_cond rfl (fun hc => ?_) (fun hc => ?_) <;> (try rw [hc]) <;> (try simp only [decide_eq_true_eq, decide_eq_false_iff_not, beq_iff_eq, beq_eq_false_iff_ne, bne_iff_ne, bne_eq_false_iff_eq, Bool.not_eq_true', Bool.not_eq_false', Int.not_lt, Int.not_le, ne_eq, reduceCtorEq, not_true_eq_false, not_false_eq_true, Decidable.not_not] at hc) <;> (try (exfalso; omega)) <;> (try refine W_norm rfl ?_))
          | refine W_skip ?_
          | refine W_ret ?_
          | refine W_exit ?_
          | refine W_block ?_
          | refine W_draw rfl ?_
        )
        | refine seqK_n ?_
        | refine seqK_r ?_
        | refine seqK_x ?_
        | refine blockK_r ?_
        | refine blockK_n ?_
        | refine blockK_e ?_
        | refine blockK_x rfl ?_
        | refine loopK_x ?_
        | refine loopK_r ?_
        | refine invK_x ?_
        | refine invK_r ?_
        | refine invK_n ?_
        | refine midK_n ?_
        | refine midK_x ?_
        | refine midK_r ?_
        | (refine fnK_cellS hs 0 rfl rfl rfl rfl ?_)
        | (refine fnK_cellS hs 1 rfl rfl rfl rfl ?_)
        | (refine fnK_cellT hs 0 rfl rfl rfl rfl rfl rfl ?_)
        | (refine fnK_cellT hs 1 rfl rfl rfl rfl rfl rfl ?_)
        | (refine fnK_r rfl ?_; try dsimp only [gd_z, gd_s])
        | (refine fnK_n rfl ?_; try dsimp only [gd_z, gd_s]))
      refine ⟨_, ?_, _, ⟨i + 1, rfl, rfl, ?_, ?_⟩, EnvB.of rfl⟩
      · omega
      · omega
      · rw [hrp]; exact hs
    · obtain rfl : i = a.length := by omega
      rw [List.take_length] at hs
      have hjn : (runP dec0 a).1.kept = 0 → allP (a ++ b) = allP a ++ allP b := fun h => allP_join h
      have lab : (allP (a ++ b)).length ≤ 2 * (a.length + b.length) + 1 := by have := allP_len (a ++ b); rwa [List.length_append] at this
      repeat' (first
        | (refine K_ops ?_; first
          | refine W_fastB rfl ?_
          | refine W_nil ?_
          | (refine K_guard ?_; first
            | refine W_guard_on rfl ?_
            | refine W_guard_off rfl rfl (W_norm rfl ?_)
            | refine W_guard_u rfl (W_norm rfl ?_)
            | (refine W_guardT rfl (fun hc => ?_) (fun hc => ?_) <;> (try rw [hc]) <;> (try simp only [decide_eq_true_eq, decide_eq_false_iff_not, beq_iff_eq, beq_eq_false_iff_ne, bne_iff_ne, bne_eq_false_iff_eq, Bool.not_eq_true', Bool.not_eq_false', Int.not_lt, Int.not_le, ne_eq, reduceCtorEq, not_true_eq_false, not_false_eq_true, Decidable.not_not] at hc) <;> (try (exfalso; omega)) <;> (try refine W_norm rfl ?_))
            | (refine W_guardF rfl (fun hc => ?_) (fun hc => ?_) <;> (try rw [hc]) <;> (try simp only [decide_eq_true_eq, decide_eq_false_iff_not, beq_iff_eq, beq_eq_false_iff_ne, bne_iff_ne, bne_eq_false_iff_eq, Bool.not_eq_true', Bool.not_eq_false', Int.not_lt, Int.not_le, ne_eq, reduceCtorEq, not_true_eq_false, not_false_eq_true, Decidable.not_not] at hc) <;> (try (exfalso; omega)) <;> (try refine W_norm rfl ?_))
          )
          | (refine K_call ?_; first
            | (refine W_callsN 14 rfl (w14s hs 0 rfl) rfl ?_; rintro _ _ ⟨rfl, rfl⟩; refine W_norm rfl ?_)
            | (refine W_callsN 10 rfl (w10s (B := [] ++ allP a ++ allP b) (SlR.now hs hu3) (AccS.now (by assumption) hs (by simp)) (by omega) (by simp only [List.nil_append, List.length_append]; omega)) rfl ?_; rintro _ _ ⟨rfl, rfl⟩; rw [decide_eq_true (show allP (a ++ b) = [] ++ allP a ++ allP b by rw [hjn (by omega)]; rfl)]; refine W_norm rfl ?_)
          )
          | (refine W_lenL rfl (by first | assumption | exact SlR.ln (by assumption) | exact AccS.ln (by assumption) | exact OwnS.ln (by assumption) | exact VwO.ln (by assumption) | exact OwnP.ln (by assumption) | exact Len.sl) ?_; refine W_norm rfl ?_)
          | (refine K_bin ?_; first
            | (refine W_add rfl rfl (IntWalk.i64_in _ (by first | omega | (simp only [List.length_set, List.length_append, List.length_take, List.length_drop, List.length_replicate, List.length_cons, List.length_nil, decs_length, List.length_map]; omega))) ?_; refine W_norm rfl ?_)
            | (refine W_add rfl rfl (IntWalk.i32_in _ (by first | omega | (simp only [List.length_set, List.length_append, List.length_take, List.length_drop, List.length_replicate, List.length_cons, List.length_nil, decs_length, List.length_map]; omega))) ?_; refine W_norm rfl ?_)
            | (refine W_add rfl rfl (IntWalk.u8_in _ (by first | omega | (simp only [List.length_set, List.length_append, List.length_take, List.length_drop, List.length_replicate, List.length_cons, List.length_nil, decs_length, List.length_map]; omega))) ?_; refine W_norm rfl ?_)
            | (refine W_sub rfl rfl (IntWalk.i64_in _ (by first | omega | (simp only [List.length_set, List.length_append, List.length_take, List.length_drop, List.length_replicate, List.length_cons, List.length_nil, decs_length, List.length_map]; omega))) ?_; refine W_norm rfl ?_)
            | (refine W_sub rfl rfl (IntWalk.i32_in _ (by first | omega | (simp only [List.length_set, List.length_append, List.length_take, List.length_drop, List.length_replicate, List.length_cons, List.length_nil, decs_length, List.length_map]; omega))) ?_; refine W_norm rfl ?_)
            | (refine W_sub rfl rfl (IntWalk.u8_in _ (by first | omega | (simp only [List.length_set, List.length_append, List.length_take, List.length_drop, List.length_replicate, List.length_cons, List.length_nil, decs_length, List.length_map]; omega))) ?_; refine W_norm rfl ?_)
            | (refine W_mul rfl rfl (IntWalk.i64_in _ (by first | omega | (simp only [List.length_set, List.length_append, List.length_take, List.length_drop, List.length_replicate, List.length_cons, List.length_nil, decs_length, List.length_map]; omega))) ?_; refine W_norm rfl ?_)
            | (refine W_mul rfl rfl (IntWalk.i32_in _ (by first | omega | (simp only [List.length_set, List.length_append, List.length_take, List.length_drop, List.length_replicate, List.length_cons, List.length_nil, decs_length, List.length_map]; omega))) ?_; refine W_norm rfl ?_)
            | (refine W_mul rfl rfl (IntWalk.u8_in _ (by first | omega | (simp only [List.length_set, List.length_append, List.length_take, List.length_drop, List.length_replicate, List.length_cons, List.length_nil, decs_length, List.length_map]; omega))) ?_; refine W_norm rfl ?_)
            | (refine W_div rfl rfl (by omega) ?_; refine W_norm rfl ?_)
            | (refine W_mod rfl rfl (by omega) ?_; refine W_norm rfl ?_)
            | (refine W_cat rfl rfl (by first | omega | (simp only [List.length_set, List.length_append, List.length_take, List.length_drop, List.length_replicate, List.length_cons, List.length_nil, decs_length, List.length_map]; omega)) ?_; refine W_norm rfl ?_)
            | (refine W_nilSl_t rfl rfl rfl ?_; refine W_norm rfl ?_)
            | (refine W_nilSl_f rfl rfl rfl ?_; refine W_norm rfl ?_)
            | (refine W_nilSl_e rfl rfl rfl ?_; refine W_norm rfl ?_)
            | (refine W_nil_ptr_f rfl rfl rfl ?_; refine W_norm rfl ?_)
            | (refine W_nil_ptr_t rfl rfl rfl ?_; refine W_norm rfl ?_)
            | (refine W_nePtrSame rfl rfl rfl ?_; refine W_norm rfl ?_)
            | (refine W_shr rfl rfl (by decide) ?_; refine W_norm rfl ?_)
            | (refine W_and rfl rfl ?_; refine W_norm rfl ?_)
            | (refine W_or rfl rfl ?_; refine W_norm rfl ?_)
            | (refine W_add rfl rfl rfl ?_; refine W_norm rfl ?_)
            | (refine W_sub rfl rfl rfl ?_; refine W_norm rfl ?_)
            | (refine W_mul rfl rfl rfl ?_; refine W_norm rfl ?_)
          )
          | (refine K_pick ?_; first
            | refine W_pick_t rfl rfl (W_norm rfl ?_)
            | refine W_pick_f rfl rfl (W_norm rfl ?_)
            | (refine W_pick rfl (fun hc => ?_) (fun hc => ?_) <;> (try rw [hc]) <;> (try simp only [decide_eq_true_eq, decide_eq_false_iff_not, beq_iff_eq, beq_eq_false_iff_ne, bne_iff_ne, bne_eq_false_iff_eq, Bool.not_eq_true', Bool.not_eq_false', Int.not_lt, Int.not_le, ne_eq, reduceCtorEq, not_true_eq_false, not_false_eq_true, Decidable.not_not] at hc) <;> (try (exfalso; omega)) <;> (try refine W_norm rfl ?_))
          )
          | (refine K_index ?_; first
            | (refine W_indexO rfl rfl ⟨(by first | omega | (simp only [List.length_set, List.length_append, List.length_take, List.length_drop, List.length_replicate, List.length_cons, List.length_nil, decs_length, List.length_map]; omega)), (by first | omega | (simp only [List.length_set, List.length_append, List.length_take, List.length_drop, List.length_replicate, List.length_cons, List.length_nil, decs_length, List.length_map]; omega))⟩ ?_; refine W_norm rfl ?_)
            | (refine W_indexVw rfl rfl (by assumption) ⟨(by first | omega | (simp only [List.length_set, List.length_append, List.length_take, List.length_drop, List.length_replicate, List.length_cons, List.length_nil, decs_length, List.length_map]; omega)), (by first | omega | (simp only [List.length_set, List.length_append, List.length_take, List.length_drop, List.length_replicate, List.length_cons, List.length_nil, decs_length, List.length_map]; omega))⟩ ?_; refine W_norm rfl ?_)
            | (refine W_indexV rfl rfl ⟨(by first | omega | (simp only [List.length_set, List.length_append, List.length_take, List.length_drop, List.length_replicate, List.length_cons, List.length_nil, decs_length, List.length_map]; omega)), (by first | omega | (simp only [List.length_set, List.length_append, List.length_take, List.length_drop, List.length_replicate, List.length_cons, List.length_nil, decs_length, List.length_map]; omega))⟩ ?_; refine W_norm rfl ?_)
            | (refine W_indexR rfl rfl (by assumption) rfl ⟨(by first | omega | (simp only [List.length_set, List.length_append, List.length_take, List.length_drop, List.length_replicate, List.length_cons, List.length_nil, decs_length, List.length_map]; omega)), (by first | omega | (simp only [List.length_set, List.length_append, List.length_take, List.length_drop, List.length_replicate, List.length_cons, List.length_nil, decs_length, List.length_map]; omega))⟩ ?_; intro _ _ _; refine W_norm rfl ?_)
          )
          | (refine K_load ?_; first
            | (refine W_loadR hs rfl (by assumption) rfl ?_; refine W_norm rfl ?_)
            | (refine W_loadRF hs rfl (by assumption) rfl ?_; refine W_norm rfl ?_)
            | (refine W_loadRA hs rfl (by assumption) rfl ?_; refine W_norm rfl ?_)
            | (refine W_loadRP hs rfl (by assumption) rfl ?_; refine W_norm rfl ?_)
            | (refine W_loadO hs 0 rfl rfl rfl (by first | omega | (simp only [List.length_set, List.length_append, List.length_take, List.length_drop, List.length_replicate, List.length_cons, List.length_nil, decs_length, List.length_map]; omega)) rfl ?_; refine W_norm rfl ?_)
            | (refine W_loadOF hs 0 rfl rfl rfl (by first | omega | (simp only [List.length_set, List.length_append, List.length_take, List.length_drop, List.length_replicate, List.length_cons, List.length_nil, decs_length, List.length_map]; omega)) rfl ?_; refine W_norm rfl ?_)
            | (refine W_loadOA hs 0 rfl rfl rfl (by first | omega | (simp only [List.length_set, List.length_append, List.length_take, List.length_drop, List.length_replicate, List.length_cons, List.length_nil, decs_length, List.length_map]; omega)) ?_; refine W_norm rfl ?_)
            | (refine W_loadOP hs 0 rfl rfl rfl (by first | omega | (simp only [List.length_set, List.length_append, List.length_take, List.length_drop, List.length_replicate, List.length_cons, List.length_nil, decs_length, List.length_map]; omega)) rfl ?_; refine W_norm rfl ?_)
            | (refine W_loadC hs 0 rfl rfl rfl ?_; refine W_norm rfl ?_)
            | (refine W_loadCA hs 0 rfl rfl rfl ?_; refine W_norm rfl ?_)
            | (refine W_loadO hs 1 rfl rfl rfl (by first | omega | (simp only [List.length_set, List.length_append, List.length_take, List.length_drop, List.length_replicate, List.length_cons, List.length_nil, decs_length, List.length_map]; omega)) rfl ?_; refine W_norm rfl ?_)
            | (refine W_loadOF hs 1 rfl rfl rfl (by first | omega | (simp only [List.length_set, List.length_append, List.length_take, List.length_drop, List.length_replicate, List.length_cons, List.length_nil, decs_length, List.length_map]; omega)) rfl ?_; refine W_norm rfl ?_)
            | (refine W_loadOA hs 1 rfl rfl rfl (by first | omega | (simp only [List.length_set, List.length_append, List.length_take, List.length_drop, List.length_replicate, List.length_cons, List.length_nil, decs_length, List.length_map]; omega)) ?_; refine W_norm rfl ?_)
            | (refine W_loadOP hs 1 rfl rfl rfl (by first | omega | (simp only [List.length_set, List.length_append, List.length_take, List.length_drop, List.length_replicate, List.length_cons, List.length_nil, decs_length, List.length_map]; omega)) rfl ?_; refine W_norm rfl ?_)
            | (refine W_loadC hs 1 rfl rfl rfl ?_; refine W_norm rfl ?_)
            | (refine W_loadCA hs 1 rfl rfl rfl ?_; refine W_norm rfl ?_)
            | (refine W_loadO hs 2 rfl rfl rfl (by first | omega | (simp only [List.length_set, List.length_append, List.length_take, List.length_drop, List.length_replicate, List.length_cons, List.length_nil, decs_length, List.length_map]; omega)) rfl ?_; refine W_norm rfl ?_)
            | (refine W_loadOF hs 2 rfl rfl rfl (by first | omega | (simp only [List.length_set, List.length_append, List.length_take, List.length_drop, List.length_replicate, List.length_cons, List.length_nil, decs_length, List.length_map]; omega)) rfl ?_; refine W_norm rfl ?_)
            | (refine W_loadOA hs 2 rfl rfl rfl (by first | omega | (simp only [List.length_set, List.length_append, List.length_take, List.length_drop, List.length_replicate, List.length_cons, List.length_nil, decs_length, List.length_map]; omega)) ?_; refine W_norm rfl ?_)
            | (refine W_loadOP hs 2 rfl rfl rfl (by first | omega | (simp only [List.length_set, List.length_append, List.length_take, List.length_drop, List.length_replicate, List.length_cons, List.length_nil, decs_length, List.length_map]; omega)) rfl ?_; refine W_norm rfl ?_)
            | (refine W_loadC hs 2 rfl rfl rfl ?_; refine W_norm rfl ?_)
            | (refine W_loadCA hs 2 rfl rfl rfl ?_; refine W_norm rfl ?_)
            | (refine W_loadO hs 3 rfl rfl rfl (by first | omega | (simp only [List.length_set, List.length_append, List.length_take, List.length_drop, List.length_replicate, List.length_cons, List.length_nil, decs_length, List.length_map]; omega)) rfl ?_; refine W_norm rfl ?_)
            | (refine W_loadOF hs 3 rfl rfl rfl (by first | omega | (simp only [List.length_set, List.length_append, List.length_take, List.length_drop, List.length_replicate, List.length_cons, List.length_nil, decs_length, List.length_map]; omega)) rfl ?_; refine W_norm rfl ?_)
            | (refine W_loadOA hs 3 rfl rfl rfl (by first | omega | (simp only [List.length_set, List.length_append, List.length_take, List.length_drop, List.length_replicate, List.length_cons, List.length_nil, decs_length, List.length_map]; omega)) ?_; refine W_norm rfl ?_)
            | (refine W_loadOP hs 3 rfl rfl rfl (by first | omega | (simp only [List.length_set, List.length_append, List.length_take, List.length_drop, List.length_replicate, List.length_cons, List.length_nil, decs_length, List.length_map]; omega)) rfl ?_; refine W_norm rfl ?_)
            | (refine W_loadC hs 3 rfl rfl rfl ?_; refine W_norm rfl ?_)
            | (refine W_loadCA hs 3 rfl rfl rfl ?_; refine W_norm rfl ?_)
          )
          | (refine K_store ?_; first
            | (refine W_storeO hs 0 rfl rfl rfl rfl rfl (by first | omega | (simp only [List.length_set, List.length_append, List.length_take, List.length_drop, List.length_replicate, List.length_cons, List.length_nil, decs_length, List.length_map]; omega)) (by first | decide | assumption) rfl ?_; clear hs; intro _ hs; try simp only [cell_back, attr_back, List.set_cons_zero, List.set_cons_succ, List.eraseIdx_cons_succ, List.eraseIdx_zero, List.tail_cons, List.nil_append, List.cons_append] at hs; refine W_norm rfl ?_)
            | (refine W_storeOF hs 0 rfl rfl rfl rfl rfl (by first | omega | (simp only [List.length_set, List.length_append, List.length_take, List.length_drop, List.length_replicate, List.length_cons, List.length_nil, decs_length, List.length_map]; omega)) (by first | decide | assumption) rfl rfl rfl rfl ?_; clear hs; intro _ hs; try simp only [cell_back, attr_back, List.set_cons_zero, List.set_cons_succ, List.eraseIdx_cons_succ, List.eraseIdx_zero, List.tail_cons, List.nil_append, List.cons_append] at hs; refine W_norm rfl ?_)
            | (refine W_storeC hs 0 rfl rfl rfl rfl (by first | decide | assumption) rfl rfl ?_; clear hs; intro _ hs; try simp only [cell_back, attr_back, List.set_cons_zero, List.set_cons_succ, List.eraseIdx_cons_succ, List.eraseIdx_zero, List.tail_cons, List.nil_append, List.cons_append] at hs; refine W_norm rfl ?_)
            | (refine W_storeO hs 1 rfl rfl rfl rfl rfl (by first | omega | (simp only [List.length_set, List.length_append, List.length_take, List.length_drop, List.length_replicate, List.length_cons, List.length_nil, decs_length, List.length_map]; omega)) (by first | decide | assumption) rfl ?_; clear hs; intro _ hs; try simp only [cell_back, attr_back, List.set_cons_zero, List.set_cons_succ, List.eraseIdx_cons_succ, List.eraseIdx_zero, List.tail_cons, List.nil_append, List.cons_append] at hs; refine W_norm rfl ?_)
            | (refine W_storeOF hs 1 rfl rfl rfl rfl rfl (by first | omega | (simp only [List.length_set, List.length_append, List.length_take, List.length_drop, List.length_replicate, List.length_cons, List.length_nil, decs_length, List.length_map]; omega)) (by first | decide | assumption) rfl rfl rfl rfl ?_; clear hs; intro _ hs; try simp only [cell_back, attr_back, List.set_cons_zero, List.set_cons_succ, List.eraseIdx_cons_succ, List.eraseIdx_zero, List.tail_cons, List.nil_append, List.cons_append] at hs; refine W_norm rfl ?_)
            | (refine W_storeC hs 1 rfl rfl rfl rfl (by first | decide | assumption) rfl rfl ?_; clear hs; intro _ hs; try simp only [cell_back, attr_back, List.set_cons_zero, List.set_cons_succ, List.eraseIdx_cons_succ, List.eraseIdx_zero, List.tail_cons, List.nil_append, List.cons_append] at hs; refine W_norm rfl ?_)
            | (refine W_storeO hs 2 rfl rfl rfl rfl rfl (by first | omega | (simp only [List.length_set, List.length_append, List.length_take, List.length_drop, List.length_replicate, List.length_cons, List.length_nil, decs_length, List.length_map]; omega)) (by first | decide | assumption) rfl ?_; clear hs; intro _ hs; try simp only [cell_back, attr_back, List.set_cons_zero, List.set_cons_succ, List.eraseIdx_cons_succ, List.eraseIdx_zero, List.tail_cons, List.nil_append, List.cons_append] at hs; refine W_norm rfl ?_)
            | (refine W_storeOF hs 2 rfl rfl rfl rfl rfl (by first | omega | (simp only [List.length_set, List.length_append, List.length_take, List.length_drop, List.length_replicate, List.length_cons, List.length_nil, decs_length, List.length_map]; omega)) (by first | decide | assumption) rfl rfl rfl rfl ?_; clear hs; intro _ hs; try simp only [cell_back, attr_back, List.set_cons_zero, List.set_cons_succ, List.eraseIdx_cons_succ, List.eraseIdx_zero, List.tail_cons, List.nil_append, List.cons_append] at hs; refine W_norm rfl ?_)
            | (refine W_storeC hs 2 rfl rfl rfl rfl (by first | decide | assumption) rfl rfl ?_; clear hs; intro _ hs; try simp only [cell_back, attr_back, List.set_cons_zero, List.set_cons_succ, List.eraseIdx_cons_succ, List.eraseIdx_zero, List.tail_cons, List.nil_append, List.cons_append] at hs; refine W_norm rfl ?_)
            | (refine W_storeO hs 3 rfl rfl rfl rfl rfl (by first | omega | (simp only [List.length_set, List.length_append, List.length_take, List.length_drop, List.length_replicate, List.length_cons, List.length_nil, decs_length, List.length_map]; omega)) (by first | decide | assumption) rfl ?_; clear hs; intro _ hs; try simp only [cell_back, attr_back, List.set_cons_zero, List.set_cons_succ, List.eraseIdx_cons_succ, List.eraseIdx_zero, List.tail_cons, List.nil_append, List.cons_append] at hs; refine W_norm rfl ?_)
            | (refine W_storeOF hs 3 rfl rfl rfl rfl rfl (by first | omega | (simp only [List.length_set, List.length_append, List.length_take, List.length_drop, List.length_replicate, List.length_cons, List.length_nil, decs_length, List.length_map]; omega)) (by first | decide | assumption) rfl rfl rfl rfl ?_; clear hs; intro _ hs; try simp only [cell_back, attr_back, List.set_cons_zero, List.set_cons_succ, List.eraseIdx_cons_succ, List.eraseIdx_zero, List.tail_cons, List.nil_append, List.cons_append] at hs; refine W_norm rfl ?_)
            | (refine W_storeC hs 3 rfl rfl rfl rfl (by first | decide | assumption) rfl rfl ?_; clear hs; intro _ hs; try simp only [cell_back, attr_back, List.set_cons_zero, List.set_cons_succ, List.eraseIdx_cons_succ, List.eraseIdx_zero, List.tail_cons, List.nil_append, List.cons_append] at hs; refine W_norm rfl ?_)
          )
          | (refine W_allocS hs ?_; clear hs; intro al _ hs; try simp only [cell_back, attr_back, List.set_cons_zero, List.set_cons_succ, List.eraseIdx_cons_succ, List.eraseIdx_zero, List.tail_cons, List.nil_append, List.cons_append] at hs; refine W_norm rfl ?_)
          | (refine W_boxS hs rfl rfl ?_; clear hs; intro bx _ hs; try simp only [cell_back, attr_back, List.set_cons_zero, List.set_cons_succ, List.eraseIdx_cons_succ, List.eraseIdx_zero, List.tail_cons, List.nil_append, List.cons_append] at hs; refine W_norm rfl ?_)
          | (refine K_slice ?_; first
            | (refine W_sliceO0 rfl rfl rfl (by first | omega | (simp only [List.length_set, List.length_append, List.length_take, List.length_drop, List.length_replicate, List.length_cons, List.length_nil, decs_length, List.length_map]; omega)) ⟨(by first | omega | (simp only [List.length_set, List.length_append, List.length_take, List.length_drop, List.length_replicate, List.length_cons, List.length_nil, decs_length, List.length_map]; omega)), (by first | omega | (simp only [List.length_set, List.length_append, List.length_take, List.length_drop, List.length_replicate, List.length_cons, List.length_nil, decs_length, List.length_map]; omega)), (by first | omega | (simp only [List.length_set, List.length_append, List.length_take, List.length_drop, List.length_replicate, List.length_cons, List.length_nil, decs_length, List.length_map]; omega))⟩ ?_; intro _ _; refine W_norm rfl ?_)
            | (refine W_sliceO0To rfl rfl (by first | omega | (simp only [List.length_set, List.length_append, List.length_take, List.length_drop, List.length_replicate, List.length_cons, List.length_nil, decs_length, List.length_map]; omega)) ⟨(by first | omega | (simp only [List.length_set, List.length_append, List.length_take, List.length_drop, List.length_replicate, List.length_cons, List.length_nil, decs_length, List.length_map]; omega)), (by first | omega | (simp only [List.length_set, List.length_append, List.length_take, List.length_drop, List.length_replicate, List.length_cons, List.length_nil, decs_length, List.length_map]; omega))⟩ ?_; intro _ _; refine W_norm rfl ?_)
            | (refine W_sliceO0From rfl rfl (by first | omega | (simp only [List.length_set, List.length_append, List.length_take, List.length_drop, List.length_replicate, List.length_cons, List.length_nil, decs_length, List.length_map]; omega)) ⟨(by first | omega | (simp only [List.length_set, List.length_append, List.length_take, List.length_drop, List.length_replicate, List.length_cons, List.length_nil, decs_length, List.length_map]; omega)), (by first | omega | (simp only [List.length_set, List.length_append, List.length_take, List.length_drop, List.length_replicate, List.length_cons, List.length_nil, decs_length, List.length_map]; omega))⟩ ?_; intro _ _; refine W_norm rfl ?_)
            | (refine W_sliceR rfl rfl rfl (by assumption) rfl ⟨(by first | omega | (simp only [List.length_set, List.length_append, List.length_take, List.length_drop, List.length_replicate, List.length_cons, List.length_nil, decs_length, List.length_map]; omega)), (by first | omega | (simp only [List.length_set, List.length_append, List.length_take, List.length_drop, List.length_replicate, List.length_cons, List.length_nil, decs_length, List.length_map]; omega)), (by first | omega | (simp only [List.length_set, List.length_append, List.length_take, List.length_drop, List.length_replicate, List.length_cons, List.length_nil, decs_length, List.length_map]; omega))⟩ ?_; intro _ _; refine W_norm rfl ?_)
            | (refine W_sliceRTo rfl rfl (by assumption) rfl ⟨(by first | omega | (simp only [List.length_set, List.length_append, List.length_take, List.length_drop, List.length_replicate, List.length_cons, List.length_nil, decs_length, List.length_map]; omega)), (by first | omega | (simp only [List.length_set, List.length_append, List.length_take, List.length_drop, List.length_replicate, List.length_cons, List.length_nil, decs_length, List.length_map]; omega))⟩ ?_; intro _ _; refine W_norm rfl ?_)
            | (refine W_sliceRFrom rfl rfl (by assumption) rfl ⟨(by first | omega | (simp only [List.length_set, List.length_append, List.length_take, List.length_drop, List.length_replicate, List.length_cons, List.length_nil, decs_length, List.length_map]; omega)), (by first | omega | (simp only [List.length_set, List.length_append, List.length_take, List.length_drop, List.length_replicate, List.length_cons, List.length_nil, decs_length, List.length_map]; omega))⟩ ?_; intro _ _; refine W_norm rfl ?_)
          )
          | (refine K_bslice ?_; first
            | (refine W_appB1 (intEl .i32) hs 0 rfl rfl rfl (by assumption) rfl rfl rfl ⟨by decide, (by first | omega | (simp only [List.length_set, List.length_append, List.length_take, List.length_drop, List.length_replicate, List.length_cons, List.length_nil, decs_length, List.length_map]; omega))⟩ ?_; clear hs; intro _ _ _ _ _ hs; try simp only [cell_back, attr_back, List.set_cons_zero, List.set_cons_succ, List.eraseIdx_cons_succ, List.eraseIdx_zero, List.tail_cons, List.nil_append, List.cons_append] at hs; refine W_norm rfl ?_)
            | (refine W_appB (intEl .i32) hs 0 rfl rfl (of_decide_eq_true rfl) (by assumption) rfl rfl rfl ⟨by decide, (by first | omega | (simp only [List.length_set, List.length_append, List.length_take, List.length_drop, List.length_replicate, List.length_cons, List.length_nil, decs_length, List.length_map]; omega))⟩ ?_; clear hs; intro _ _ _ _ _ hs; try simp only [cell_back, attr_back, List.set_cons_zero, List.set_cons_succ, List.eraseIdx_cons_succ, List.eraseIdx_zero, List.tail_cons, List.nil_append, List.cons_append] at hs; refine W_norm rfl ?_)
            | (refine W_appB1 (intEl .i32) hs 1 rfl rfl rfl (by assumption) rfl rfl rfl ⟨by decide, (by first | omega | (simp only [List.length_set, List.length_append, List.length_take, List.length_drop, List.length_replicate, List.length_cons, List.length_nil, decs_length, List.length_map]; omega))⟩ ?_; clear hs; intro _ _ _ _ _ hs; try simp only [cell_back, attr_back, List.set_cons_zero, List.set_cons_succ, List.eraseIdx_cons_succ, List.eraseIdx_zero, List.tail_cons, List.nil_append, List.cons_append] at hs; refine W_norm rfl ?_)
            | (refine W_appB (intEl .i32) hs 1 rfl rfl (of_decide_eq_true rfl) (by assumption) rfl rfl rfl ⟨by decide, (by first | omega | (simp only [List.length_set, List.length_append, List.length_take, List.length_drop, List.length_replicate, List.length_cons, List.length_nil, decs_length, List.length_map]; omega))⟩ ?_; clear hs; intro _ _ _ _ _ hs; try simp only [cell_back, attr_back, List.set_cons_zero, List.set_cons_succ, List.eraseIdx_cons_succ, List.eraseIdx_zero, List.tail_cons, List.nil_append, List.cons_append] at hs; refine W_norm rfl ?_)
            | (refine W_appB1 (intEl .i32) hs 2 rfl rfl rfl (by assumption) rfl rfl rfl ⟨by decide, (by first | omega | (simp only [List.length_set, List.length_append, List.length_take, List.length_drop, List.length_replicate, List.length_cons, List.length_nil, decs_length, List.length_map]; omega))⟩ ?_; clear hs; intro _ _ _ _ _ hs; try simp only [cell_back, attr_back, List.set_cons_zero, List.set_cons_succ, List.eraseIdx_cons_succ, List.eraseIdx_zero, List.tail_cons, List.nil_append, List.cons_append] at hs; refine W_norm rfl ?_)
            | (refine W_appB (intEl .i32) hs 2 rfl rfl (of_decide_eq_true rfl) (by assumption) rfl rfl rfl ⟨by decide, (by first | omega | (simp only [List.length_set, List.length_append, List.length_take, List.length_drop, List.length_replicate, List.length_cons, List.length_nil, decs_length, List.length_map]; omega))⟩ ?_; clear hs; intro _ _ _ _ _ hs; try simp only [cell_back, attr_back, List.set_cons_zero, List.set_cons_succ, List.eraseIdx_cons_succ, List.eraseIdx_zero, List.tail_cons, List.nil_append, List.cons_append] at hs; refine W_norm rfl ?_)
            | (refine W_appB1 (intEl .i32) hs 3 rfl rfl rfl (by assumption) rfl rfl rfl ⟨by decide, (by first | omega | (simp only [List.length_set, List.length_append, List.length_take, List.length_drop, List.length_replicate, List.length_cons, List.length_nil, decs_length, List.length_map]; omega))⟩ ?_; clear hs; intro _ _ _ _ _ hs; try simp only [cell_back, attr_back, List.set_cons_zero, List.set_cons_succ, List.eraseIdx_cons_succ, List.eraseIdx_zero, List.tail_cons, List.nil_append, List.cons_append] at hs; refine W_norm rfl ?_)
            | (refine W_appB (intEl .i32) hs 3 rfl rfl (of_decide_eq_true rfl) (by assumption) rfl rfl rfl ⟨by decide, (by first | omega | (simp only [List.length_set, List.length_append, List.length_take, List.length_drop, List.length_replicate, List.length_cons, List.length_nil, decs_length, List.length_map]; omega))⟩ ?_; clear hs; intro _ _ _ _ _ hs; try simp only [cell_back, attr_back, List.set_cons_zero, List.set_cons_succ, List.eraseIdx_cons_succ, List.eraseIdx_zero, List.tail_cons, List.nil_append, List.cons_append] at hs; refine W_norm rfl ?_)
            | (refine W_buildS1 (intEl .i32) hs rfl rfl ?_; clear hs; intro _ _ _ _ hs; try simp only [cell_back, attr_back, List.set_cons_zero, List.set_cons_succ, List.eraseIdx_cons_succ, List.eraseIdx_zero, List.tail_cons, List.nil_append, List.cons_append] at hs; refine W_norm rfl ?_)
            | (refine W_buildS2 (intEl .i32) hs rfl rfl ?_; clear hs; intro _ _ _ _ hs; try simp only [cell_back, attr_back, List.set_cons_zero, List.set_cons_succ, List.eraseIdx_cons_succ, List.eraseIdx_zero, List.tail_cons, List.nil_append, List.cons_append] at hs; refine W_norm rfl ?_)
            | (refine W_buildS0 (intEl .i32) hs ?_; clear hs; intro _ _ _ _ hs; try simp only [cell_back, attr_back, List.set_cons_zero, List.set_cons_succ, List.eraseIdx_cons_succ, List.eraseIdx_zero, List.tail_cons, List.nil_append, List.cons_append] at hs; refine W_norm rfl ?_)
          )
          | (refine K_make ?_; first
            | (refine W_makeS (intEl .i32) hs rfl rfl (by first | omega | (simp only [List.length_set, List.length_append, List.length_take, List.length_drop, List.length_replicate, List.length_cons, List.length_nil, decs_length, List.length_map]; omega)) ⟨(by first | omega | (simp only [List.length_set, List.length_append, List.length_take, List.length_drop, List.length_replicate, List.length_cons, List.length_nil, decs_length, List.length_map]; omega)), (by first | omega | (simp only [List.length_set, List.length_append, List.length_take, List.length_drop, List.length_replicate, List.length_cons, List.length_nil, decs_length, List.length_map]; omega))⟩ rfl ?_; clear hs; intro _ _ hs; try simp only [cell_back, attr_back, List.set_cons_zero, List.set_cons_succ, List.eraseIdx_cons_succ, List.eraseIdx_zero, List.tail_cons, List.nil_append, List.cons_append] at hs; refine W_norm rfl ?_)
          )
          | (refine K_append ?_; first
            | (refine W_appS hs 0 rfl rfl (by assumption) rfl (by first | assumption | exact SlR.now hs (by assumption) | exact AccS.now (by assumption) hs (by simp) | exact OwnS.now (by assumption) hs (by simp)) rfl ⟨by decide, (by first | omega | (simp only [List.length_set, List.length_append, List.length_take, List.length_drop, List.length_replicate, List.length_cons, List.length_nil, decs_length, List.length_map]; omega))⟩ ?_; clear hs; intro _ _ _ _ hs; try simp only [cell_back, attr_back, List.set_cons_zero, List.set_cons_succ, List.eraseIdx_cons_succ, List.eraseIdx_zero, List.tail_cons, List.nil_append, List.cons_append] at hs; refine W_norm rfl ?_)
            | (refine W_appS hs 1 rfl rfl (by assumption) rfl (by first | assumption | exact SlR.now hs (by assumption) | exact AccS.now (by assumption) hs (by simp) | exact OwnS.now (by assumption) hs (by simp)) rfl ⟨by decide, (by first | omega | (simp only [List.length_set, List.length_append, List.length_take, List.length_drop, List.length_replicate, List.length_cons, List.length_nil, decs_length, List.length_map]; omega))⟩ ?_; clear hs; intro _ _ _ _ hs; try simp only [cell_back, attr_back, List.set_cons_zero, List.set_cons_succ, List.eraseIdx_cons_succ, List.eraseIdx_zero, List.tail_cons, List.nil_append, List.cons_append] at hs; refine W_norm rfl ?_)
            | (refine W_appS hs 2 rfl rfl (by assumption) rfl (by first | assumption | exact SlR.now hs (by assumption) | exact AccS.now (by assumption) hs (by simp) | exact OwnS.now (by assumption) hs (by simp)) rfl ⟨by decide, (by first | omega | (simp only [List.length_set, List.length_append, List.length_take, List.length_drop, List.length_replicate, List.length_cons, List.length_nil, decs_length, List.length_map]; omega))⟩ ?_; clear hs; intro _ _ _ _ hs; try simp only [cell_back, attr_back, List.set_cons_zero, List.set_cons_succ, List.eraseIdx_cons_succ, List.eraseIdx_zero, List.tail_cons, List.nil_append, List.cons_append] at hs; refine W_norm rfl ?_)
            | (refine W_appS hs 3 rfl rfl (by assumption) rfl (by first | assumption | exact SlR.now hs (by assumption) | exact AccS.now (by assumption) hs (by simp) | exact OwnS.now (by assumption) hs (by simp)) rfl ⟨by decide, (by first | omega | (simp only [List.length_set, List.length_append, List.length_take, List.length_drop, List.length_replicate, List.length_cons, List.length_nil, decs_length, List.length_map]; omega))⟩ ?_; clear hs; intro _ _ _ _ hs; try simp only [cell_back, attr_back, List.set_cons_zero, List.set_cons_succ, List.eraseIdx_cons_succ, List.eraseIdx_zero, List.tail_cons, List.nil_append, List.cons_append] at hs; refine W_norm rfl ?_)
          )
          | (refine K_copy ?_; first
            | (refine W_copyV hs 0 rfl rfl (by first | assumption | exact VwO.whole) rfl (by first | decide | assumption) rfl (by first | omega | (simp only [List.length_set, List.length_append, List.length_take, List.length_drop, List.length_replicate, List.length_cons, List.length_nil, decs_length, List.length_map]; omega)) (by first | exact VwO.sl (by assumption) (hs.at1 0 rfl) (by first | omega | (simp only [List.length_set, List.length_append, List.length_take, List.length_drop, List.length_replicate, List.length_cons, List.length_nil, decs_length, List.length_map]; omega)) | exact VwO.sl (by assumption) (hs.at1 1 rfl) (by first | omega | (simp only [List.length_set, List.length_append, List.length_take, List.length_drop, List.length_replicate, List.length_cons, List.length_nil, decs_length, List.length_map]; omega)) | exact VwO.sl (by assumption) (hs.at1 2 rfl) (by first | omega | (simp only [List.length_set, List.length_append, List.length_take, List.length_drop, List.length_replicate, List.length_cons, List.length_nil, decs_length, List.length_map]; omega)) | exact VwO.sl (by assumption) (hs.at1 3 rfl) (by first | omega | (simp only [List.length_set, List.length_append, List.length_take, List.length_drop, List.length_replicate, List.length_cons, List.length_nil, decs_length, List.length_map]; omega)) | assumption | exact SlR.now hs (by assumption) | exact AccS.now (by assumption) hs (by simp) | exact OwnS.now (by assumption) hs (by simp)) ?_; clear hs; intro _ hs; try simp only [cell_back, attr_back, List.set_cons_zero, List.set_cons_succ, List.eraseIdx_cons_succ, List.eraseIdx_zero, List.tail_cons, List.nil_append, List.cons_append] at hs; refine W_norm rfl ?_)
            | (refine W_copyV hs 1 rfl rfl (by first | assumption | exact VwO.whole) rfl (by first | decide | assumption) rfl (by first | omega | (simp only [List.length_set, List.length_append, List.length_take, List.length_drop, List.length_replicate, List.length_cons, List.length_nil, decs_length, List.length_map]; omega)) (by first | exact VwO.sl (by assumption) (hs.at1 1 rfl) (by first | omega | (simp only [List.length_set, List.length_append, List.length_take, List.length_drop, List.length_replicate, List.length_cons, List.length_nil, decs_length, List.length_map]; omega)) | exact VwO.sl (by assumption) (hs.at1 0 rfl) (by first | omega | (simp only [List.length_set, List.length_append, List.length_take, List.length_drop, List.length_replicate, List.length_cons, List.length_nil, decs_length, List.length_map]; omega)) | exact VwO.sl (by assumption) (hs.at1 2 rfl) (by first | omega | (simp only [List.length_set, List.length_append, List.length_take, List.length_drop, List.length_replicate, List.length_cons, List.length_nil, decs_length, List.length_map]; omega)) | exact VwO.sl (by assumption) (hs.at1 3 rfl) (by first | omega | (simp only [List.length_set, List.length_append, List.length_take, List.length_drop, List.length_replicate, List.length_cons, List.length_nil, decs_length, List.length_map]; omega)) | assumption | exact SlR.now hs (by assumption) | exact AccS.now (by assumption) hs (by simp) | exact OwnS.now (by assumption) hs (by simp)) ?_; clear hs; intro _ hs; try simp only [cell_back, attr_back, List.set_cons_zero, List.set_cons_succ, List.eraseIdx_cons_succ, List.eraseIdx_zero, List.tail_cons, List.nil_append, List.cons_append] at hs; refine W_norm rfl ?_)
            | (refine W_copyV hs 2 rfl rfl (by first | assumption | exact VwO.whole) rfl (by first | decide | assumption) rfl (by first | omega | (simp only [List.length_set, List.length_append, List.length_take, List.length_drop, List.length_replicate, List.length_cons, List.length_nil, decs_length, List.length_map]; omega)) (by first | exact VwO.sl (by assumption) (hs.at1 2 rfl) (by first | omega | (simp only [List.length_set, List.length_append, List.length_take, List.length_drop, List.length_replicate, List.length_cons, List.length_nil, decs_length, List.length_map]; omega)) | exact VwO.sl (by assumption) (hs.at1 0 rfl) (by first | omega | (simp only [List.length_set, List.length_append, List.length_take, List.length_drop, List.length_replicate, List.length_cons, List.length_nil, decs_length, List.length_map]; omega)) | exact VwO.sl (by assumption) (hs.at1 1 rfl) (by first | omega | (simp only [List.length_set, List.length_append, List.length_take, List.length_drop, List.length_replicate, List.length_cons, List.length_nil, decs_length, List.length_map]; omega)) | exact VwO.sl (by assumption) (hs.at1 3 rfl) (by first | omega | (simp only [List.length_set, List.length_append, List.length_take, List.length_drop, List.length_replicate, List.length_cons, List.length_nil, decs_length, List.length_map]; omega)) | assumption | exact SlR.now hs (by assumption) | exact AccS.now (by assumption) hs (by simp) | exact OwnS.now (by assumption) hs (by simp)) ?_; clear hs; intro _ hs; try simp only [cell_back, attr_back, List.set_cons_zero, List.set_cons_succ, List.eraseIdx_cons_succ, List.eraseIdx_zero, List.tail_cons, List.nil_append, List.cons_append] at hs; refine W_norm rfl ?_)
            | (refine W_copyV hs 3 rfl rfl (by first | assumption | exact VwO.whole) rfl (by first | decide | assumption) rfl (by first | omega | (simp only [List.length_set, List.length_append, List.length_take, List.length_drop, List.length_replicate, List.length_cons, List.length_nil, decs_length, List.length_map]; omega)) (by first | exact VwO.sl (by assumption) (hs.at1 3 rfl) (by first | omega | (simp only [List.length_set, List.length_append, List.length_take, List.length_drop, List.length_replicate, List.length_cons, List.length_nil, decs_length, List.length_map]; omega)) | exact VwO.sl (by assumption) (hs.at1 0 rfl) (by first | omega | (simp only [List.length_set, List.length_append, List.length_take, List.length_drop, List.length_replicate, List.length_cons, List.length_nil, decs_length, List.length_map]; omega)) | exact VwO.sl (by assumption) (hs.at1 1 rfl) (by first | omega | (simp only [List.length_set, List.length_append, List.length_take, List.length_drop, List.length_replicate, List.length_cons, List.length_nil, decs_length, List.length_map]; omega)) | exact VwO.sl (by assumption) (hs.at1 2 rfl) (by first | omega | (simp only [List.length_set, List.length_append, List.length_take, List.length_drop, List.length_replicate, List.length_cons, List.length_nil, decs_length, List.length_map]; omega)) | assumption | exact SlR.now hs (by assumption) | exact AccS.now (by assumption) hs (by simp) | exact OwnS.now (by assumption) hs (by simp)) ?_; clear hs; intro _ hs; try simp only [cell_back, attr_back, List.set_cons_zero, List.set_cons_succ, List.eraseIdx_cons_succ, List.eraseIdx_zero, List.tail_cons, List.nil_append, List.cons_append] at hs; refine W_norm rfl ?_)
          )
          | (refine W_buildN rfl ?_; refine W_norm rfl ?_)
          | (refine W_min2 rfl rfl ?_; refine W_norm rfl ?_)
          | (refine W_max2 rfl rfl ?_; refine W_norm rfl ?_)
          | (refine W_convint rfl (IntWalk.i64_in _ (by omega)) ?_; refine W_norm rfl ?_)
          | (refine W_convint rfl (IntWalk.i32_in _ (by omega)) ?_; refine W_norm rfl ?_)
          | (refine W_convint rfl (IntWalk.u8_in _ (by omega)) ?_; refine W_norm rfl ?_)
          | (refine W_sliceStr rfl rfl rfl ⟨(by first | omega | (simp only [List.length_set, List.length_append, List.length_take, List.length_drop, List.length_replicate, List.length_cons, List.length_nil, decs_length, List.length_map]; omega)), (by first | omega | (simp only [List.length_set, List.length_append, List.length_take, List.length_drop, List.length_replicate, List.length_cons, List.length_nil, decs_length, List.length_map]; omega)), (by first | omega | (simp only [List.length_set, List.length_append, List.length_take, List.length_drop, List.length_replicate, List.length_cons, List.length_nil, decs_length, List.length_map]; omega))⟩ ?_; refine W_norm rfl ?_)
          | (refine W_sliceStrTo rfl rfl ⟨(by first | omega | (simp only [List.length_set, List.length_append, List.length_take, List.length_drop, List.length_replicate, List.length_cons, List.length_nil, decs_length, List.length_map]; omega)), (by first | omega | (simp only [List.length_set, List.length_append, List.length_take, List.length_drop, List.length_replicate, List.length_cons, List.length_nil, decs_length, List.length_map]; omega))⟩ ?_; refine W_norm rfl ?_)
          | (refine W_sliceStrFrom rfl rfl ⟨(by first | omega | (simp only [List.length_set, List.length_append, List.length_take, List.length_drop, List.length_replicate, List.length_cons, List.length_nil, decs_length, List.length_map]; omega)), (by first | omega | (simp only [List.length_set, List.length_append, List.length_take, List.length_drop, List.length_replicate, List.length_cons, List.length_nil, decs_length, List.length_map]; omega))⟩ ?_; refine W_norm rfl ?_)
          | (refine W_ptrUnsafe hs 0 rfl rfl rfl ?_; refine W_norm rfl ?_)
          | (refine W_ptrUnsafe hs 1 rfl rfl rfl ?_; refine W_norm rfl ?_)
          | (refine W_ptrUnsafe hs 2 rfl rfl rfl ?_; refine W_norm rfl ?_)
          | (refine W_ptrUnsafe hs 3 rfl rfl rfl ?_; refine W_norm rfl ?_)
          | (refine W_unsafePtr hs 0 rfl rfl rfl ?_; refine W_norm rfl ?_)
          | (refine W_unsafePtr hs 1 rfl rfl rfl ?_; refine W_norm rfl ?_)
          | (refine W_unsafePtr hs 2 rfl rfl rfl ?_; refine W_norm rfl ?_)
          | (refine W_unsafePtr hs 3 rfl rfl rfl ?_; refine W_norm rfl ?_)
          | (refine W_usliceN rfl ?_; refine W_norm rfl ?_)
          | (refine W_usliceS rfl (by first | assumption | omega) ?_; refine W_norm rfl ?_)
          | (refine W_ustringN rfl rfl ?_; refine W_norm rfl ?_)
          | (refine W_ustringS hs 0 rfl rfl rfl (by first | decide | assumption) ⟨by omega, by omega⟩ (by assumption) (by assumption) ?_; clear hs; intro _ hs; try simp only [cell_back, attr_back, List.set_cons_zero, List.set_cons_succ, List.eraseIdx_cons_succ, List.eraseIdx_zero, List.tail_cons, List.nil_append, List.cons_append] at hs; refine W_norm rfl ?_)
          | (refine W_ustringS hs 1 rfl rfl rfl (by first | decide | assumption) ⟨by omega, by omega⟩ (by assumption) (by assumption) ?_; clear hs; intro _ hs; try simp only [cell_back, attr_back, List.set_cons_zero, List.set_cons_succ, List.eraseIdx_cons_succ, List.eraseIdx_zero, List.tail_cons, List.nil_append, List.cons_append] at hs; refine W_norm rfl ?_)
          | (refine W_ustringS hs 2 rfl rfl rfl (by first | decide | assumption) ⟨by omega, by omega⟩ (by assumption) (by assumption) ?_; clear hs; intro _ hs; try simp only [cell_back, attr_back, List.set_cons_zero, List.set_cons_succ, List.eraseIdx_cons_succ, List.eraseIdx_zero, List.tail_cons, List.nil_append, List.cons_append] at hs; refine W_norm rfl ?_)
          | (refine W_ustringS hs 3 rfl rfl rfl (by first | decide | assumption) ⟨by omega, by omega⟩ (by assumption) (by assumption) ?_; clear hs; intro _ hs; try simp only [cell_back, attr_back, List.set_cons_zero, List.set_cons_succ, List.eraseIdx_cons_succ, List.eraseIdx_zero, List.tail_cons, List.nil_append, List.cons_append] at hs; refine W_norm rfl ?_)
          | (refine W_convint rfl rfl ?_; refine W_norm rfl ?_)
          | refine W_indexArr rfl rfl ⟨by omega, by omega⟩ (W_norm rfl ?_)
          | (refine W_idxStr rfl rfl ⟨(by first | omega | (simp only [List.length_set, List.length_append, List.length_take, List.length_drop, List.length_replicate, List.length_cons, List.length_nil, decs_length, List.length_map]; omega)), (by first | omega | (simp only [List.length_set, List.length_append, List.length_take, List.length_drop, List.length_replicate, List.length_cons, List.length_nil, decs_length, List.length_map]; omega))⟩ ?_; refine W_norm rfl ?_)
        )
        | (refine K_code ?_; first
          | refine W_seq ?_
          | refine W_ops ?_
          | refine W_cond_t rfl ?_
          | refine W_cond_f rfl ?_
          | (refine W_cond rfl (fun hc => ?_) (fun hc => ?_) <;> (try rw [hc]) <;> (try simp only [decide_eq_true_eq, decide_eq_false_iff_not, beq_iff_eq, beq_eq_false_iff_ne, bne_iff_ne, bne_eq_false_iff_eq, Bool.not_eq_true', Bool.not_eq_false', Int.not_lt, Int.not_le, ne_eq, reduceCtorEq, not_true_eq_false, not_false_eq_true, Decidable.not_not] at hc) <;> (try (exfalso; omega)) <;> (try refine W_norm rfl ?_))
          | refine W_skip ?_
          | refine W_ret ?_
          | refine W_exit ?_
          | refine W_block ?_
          | refine W_draw rfl ?_
        )
        | refine seqK_n ?_
        | refine seqK_r ?_
        | refine seqK_x ?_
        | refine blockK_r ?_
        | refine blockK_n ?_
        | refine blockK_e ?_
        | refine blockK_x rfl ?_
        | refine loopK_x ?_
        | refine loopK_r ?_
        | refine invK_x ?_
        | refine invK_r ?_
        | refine invK_n ?_
        | refine midK_n ?_
        | refine midK_x ?_
        | refine midK_r ?_
        | (refine fnK_cellS hs 0 rfl rfl rfl rfl ?_)
        | (refine fnK_cellS hs 1 rfl rfl rfl rfl ?_)
        | (refine fnK_cellS hs 2 rfl rfl rfl rfl ?_)
        | (refine fnK_cellS hs 3 rfl rfl rfl rfl ?_)
        | (refine fnK_cellT hs 0 rfl rfl rfl rfl rfl rfl ?_)
        | (refine fnK_cellT hs 1 rfl rfl rfl rfl rfl rfl ?_)
        | (refine fnK_cellT hs 2 rfl rfl rfl rfl rfl rfl ?_)
        | (refine fnK_cellT hs 3 rfl rfl rfl rfl rfl rfl ?_)
        | (refine fnK_r rfl ?_; try dsimp only [gd_z, gd_s])
        | (refine fnK_n rfl ?_; try dsimp only [gd_z, gd_s]))
      all_goals exact ⟨_, rfl, rfl⟩
  · repeat' (first
      | (refine K_ops ?_; first
        | refine W_fastB rfl ?_
        | refine W_nil ?_
        | (refine K_guard ?_; first
          | refine W_guard_on rfl ?_
          | refine W_guard_off rfl rfl (W_norm rfl ?_)
          | refine W_guard_u rfl (W_norm rfl ?_)
          | (refine W_guardT rfl (fun hc => ?_) (fun hc => ?_) <;> (try rw [hc]) <;> (try simp only [decide_eq_true_eq, decide_eq_false_iff_not, beq_iff_eq, beq_eq_false_iff_ne, bne_iff_ne, bne_eq_false_iff_eq, Bool.not_eq_true', Bool.not_eq_false', Int.not_lt, Int.not_le, ne_eq, reduceCtorEq, not_true_eq_false, not_false_eq_true, Decidable.not_not] at hc) <;> (try (exfalso; omega)) <;> (try refine W_norm rfl ?_))
          | (refine W_guardF rfl (fun hc => ?_) (fun hc => ?_) <;> (try rw [hc]) <;> (try simp only [decide_eq_true_eq, decide_eq_false_iff_not, beq_iff_eq, beq_eq_false_iff_ne, bne_iff_ne, bne_eq_false_iff_eq, Bool.not_eq_true', Bool.not_eq_false', Int.not_lt, Int.not_le, ne_eq, reduceCtorEq, not_true_eq_false, not_false_eq_true, Decidable.not_not] at hc) <;> (try (exfalso; omega)) <;> (try refine W_norm rfl ?_))
        )
        | (refine K_call ?_; first
          | (refine W_callsN 9 rfl (w9j _) rfl ?_; rintro _ h ⟨rfl, rfl⟩; refine W_norm rfl ?_)
        )
        | (refine W_lenL rfl (by first | assumption | exact SlR.ln (by assumption) | exact AccS.ln (by assumption) | exact OwnS.ln (by assumption) | exact VwO.ln (by assumption) | exact OwnP.ln (by assumption) | exact Len.sl) ?_; refine W_norm rfl ?_)
        | (refine K_bin ?_; first
          | (refine W_add rfl rfl (IntWalk.i64_in _ (by first | omega | (simp only [List.length_set, List.length_append, List.length_take, List.length_drop, List.length_replicate, List.length_cons, List.length_nil, decs_length, List.length_map]; omega))) ?_; refine W_norm rfl ?_)
          | (refine W_add rfl rfl (IntWalk.i32_in _ (by first | omega | (simp only [List.length_set, List.length_append, List.length_take, List.length_drop, List.length_replicate, List.length_cons, List.length_nil, decs_length, List.length_map]; omega))) ?_; refine W_norm rfl ?_)
          | (refine W_add rfl rfl (IntWalk.u8_in _ (by first | omega | (simp only [List.length_set, List.length_append, List.length_take, List.length_drop, List.length_replicate, List.length_cons, List.length_nil, decs_length, List.length_map]; omega))) ?_; refine W_norm rfl ?_)
          | (refine W_sub rfl rfl (IntWalk.i64_in _ (by first | omega | (simp only [List.length_set, List.length_append, List.length_take, List.length_drop, List.length_replicate, List.length_cons, List.length_nil, decs_length, List.length_map]; omega))) ?_; refine W_norm rfl ?_)
          | (refine W_sub rfl rfl (IntWalk.i32_in _ (by first | omega | (simp only [List.length_set, List.length_append, List.length_take, List.length_drop, List.length_replicate, List.length_cons, List.length_nil, decs_length, List.length_map]; omega))) ?_; refine W_norm rfl ?_)
          | (refine W_sub rfl rfl (IntWalk.u8_in _ (by first | omega | (simp only [List.length_set, List.length_append, List.length_take, List.length_drop, List.length_replicate, List.length_cons, List.length_nil, decs_length, List.length_map]; omega))) ?_; refine W_norm rfl ?_)
          | (refine W_mul rfl rfl (IntWalk.i64_in _ (by first | omega | (simp only [List.length_set, List.length_append, List.length_take, List.length_drop, List.length_replicate, List.length_cons, List.length_nil, decs_length, List.length_map]; omega))) ?_; refine W_norm rfl ?_)
          | (refine W_mul rfl rfl (IntWalk.i32_in _ (by first | omega | (simp only [List.length_set, List.length_append, List.length_take, List.length_drop, List.length_replicate, List.length_cons, List.length_nil, decs_length, List.length_map]; omega))) ?_; refine W_norm rfl ?_)
          | (refine W_mul rfl rfl (IntWalk.u8_in _ (by first | omega | (simp only [List.length_set, List.length_append, List.length_take, List.length_drop, List.length_replicate, List.length_cons, List.length_nil, decs_length, List.length_map]; omega))) ?_; refine W_norm rfl ?_)
          | (refine W_div rfl rfl (by omega) ?_; refine W_norm rfl ?_)
          | (refine W_mod rfl rfl (by omega) ?_; refine W_norm rfl ?_)
          | (refine W_cat rfl rfl (by first | omega | (simp only [List.length_set, List.length_append, List.length_take, List.length_drop, List.length_replicate, List.length_cons, List.length_nil, decs_length, List.length_map]; omega)) ?_; refine W_norm rfl ?_)
          | (refine W_nilSl_t rfl rfl rfl ?_; refine W_norm rfl ?_)
          | (refine W_nilSl_f rfl rfl rfl ?_; refine W_norm rfl ?_)
          | (refine W_nilSl_e rfl rfl rfl ?_; refine W_norm rfl ?_)
          | (refine W_nil_ptr_f rfl rfl rfl ?_; refine W_norm rfl ?_)
          | (refine W_nil_ptr_t rfl rfl rfl ?_; refine W_norm rfl ?_)
          | (refine W_nePtrSame rfl rfl rfl ?_; refine W_norm rfl ?_)
          | (refine W_shr rfl rfl (by decide) ?_; refine W_norm rfl ?_)
          | (refine W_and rfl rfl ?_; refine W_norm rfl ?_)
          | (refine W_or rfl rfl ?_; refine W_norm rfl ?_)
          | (refine W_add rfl rfl rfl ?_; refine W_norm rfl ?_)
          | (refine W_sub rfl rfl rfl ?_; refine W_norm rfl ?_)
          | (refine W_mul rfl rfl rfl ?_; refine W_norm rfl ?_)
        )
        | (refine K_pick ?_; first
          | refine W_pick_t rfl rfl (W_norm rfl ?_)
          | refine W_pick_f rfl rfl (W_norm rfl ?_)
          | (refine W_pick rfl (fun hc => ?_) (fun hc => ?_) <;> (try rw [hc]) <;> (try simp only [decide_eq_true_eq, decide_eq_false_iff_not, beq_iff_eq, beq_eq_false_iff_ne, bne_iff_ne, bne_eq_false_iff_eq, Bool.not_eq_true', Bool.not_eq_false', Int.not_lt, Int.not_le, ne_eq, reduceCtorEq, not_true_eq_false, not_false_eq_true, Decidable.not_not] at hc) <;> (try (exfalso; omega)) <;> (try refine W_norm rfl ?_))
        )
        | (refine K_index ?_; first
          | (refine W_indexO rfl rfl ⟨(by first | omega | (simp only [List.length_set, List.length_append, List.length_take, List.length_drop, List.length_replicate, List.length_cons, List.length_nil, decs_length, List.length_map]; omega)), (by first | omega | (simp only [List.length_set, List.length_append, List.length_take, List.length_drop, List.length_replicate, List.length_cons, List.length_nil, decs_length, List.length_map]; omega))⟩ ?_; refine W_norm rfl ?_)
          | (refine W_indexVw rfl rfl (by assumption) ⟨(by first | omega | (simp only [List.length_set, List.length_append, List.length_take, List.length_drop, List.length_replicate, List.length_cons, List.length_nil, decs_length, List.length_map]; omega)), (by first | omega | (simp only [List.length_set, List.length_append, List.length_take, List.length_drop, List.length_replicate, List.length_cons, List.length_nil, decs_length, List.length_map]; omega))⟩ ?_; refine W_norm rfl ?_)
          | (refine W_indexV rfl rfl ⟨(by first | omega | (simp only [List.length_set, List.length_append, List.length_take, List.length_drop, List.length_replicate, List.length_cons, List.length_nil, decs_length, List.length_map]; omega)), (by first | omega | (simp only [List.length_set, List.length_append, List.length_take, List.length_drop, List.length_replicate, List.length_cons, List.length_nil, decs_length, List.length_map]; omega))⟩ ?_; refine W_norm rfl ?_)
          | (refine W_indexR rfl rfl (by assumption) rfl ⟨(by first | omega | (simp only [List.length_set, List.length_append, List.length_take, List.length_drop, List.length_replicate, List.length_cons, List.length_nil, decs_length, List.length_map]; omega)), (by first | omega | (simp only [List.length_set, List.length_append, List.length_take, List.length_drop, List.length_replicate, List.length_cons, List.length_nil, decs_length, List.length_map]; omega))⟩ ?_; intro _ _ _; refine W_norm rfl ?_)
        )
        | (refine K_load ?_; first
          | (refine W_loadR hs rfl (by assumption) rfl ?_; refine W_norm rfl ?_)
          | (refine W_loadRF hs rfl (by assumption) rfl ?_; refine W_norm rfl ?_)
          | (refine W_loadRA hs rfl (by assumption) rfl ?_; refine W_norm rfl ?_)
          | (refine W_loadRP hs rfl (by assumption) rfl ?_; refine W_norm rfl ?_)
          | (refine W_loadO hs 0 rfl rfl rfl (by first | omega | (simp only [List.length_set, List.length_append, List.length_take, List.length_drop, List.length_replicate, List.length_cons, List.length_nil, decs_length, List.length_map]; omega)) rfl ?_; refine W_norm rfl ?_)
          | (refine W_loadOF hs 0 rfl rfl rfl (by first | omega | (simp only [List.length_set, List.length_append, List.length_take, List.length_drop, List.length_replicate, List.length_cons, List.length_nil, decs_length, List.length_map]; omega)) rfl ?_; refine W_norm rfl ?_)
          | (refine W_loadOA hs 0 rfl rfl rfl (by first | omega | (simp only [List.length_set, List.length_append, List.length_take, List.length_drop, List.length_replicate, List.length_cons, List.length_nil, decs_length, List.length_map]; omega)) ?_; refine W_norm rfl ?_)
          | (refine W_loadOP hs 0 rfl rfl rfl (by first | omega | (simp only [List.length_set, List.length_append, List.length_take, List.length_drop, List.length_replicate, List.length_cons, List.length_nil, decs_length, List.length_map]; omega)) rfl ?_; refine W_norm rfl ?_)
          | (refine W_loadC hs 0 rfl rfl rfl ?_; refine W_norm rfl ?_)
          | (refine W_loadCA hs 0 rfl rfl rfl ?_; refine W_norm rfl ?_)
          | (refine W_loadO hs 1 rfl rfl rfl (by first | omega | (simp only [List.length_set, List.length_append, List.length_take, List.length_drop, List.length_replicate, List.length_cons, List.length_nil, decs_length, List.length_map]; omega)) rfl ?_; refine W_norm rfl ?_)
          | (refine W_loadOF hs 1 rfl rfl rfl (by first | omega | (simp only [List.length_set, List.length_append, List.length_take, List.length_drop, List.length_replicate, List.length_cons, List.length_nil, decs_length, List.length_map]; omega)) rfl ?_; refine W_norm rfl ?_)
          | (refine W_loadOA hs 1 rfl rfl rfl (by first | omega | (simp only [List.length_set, List.length_append, List.length_take, List.length_drop, List.length_replicate, List.length_cons, List.length_nil, decs_length, List.length_map]; omega)) ?_; refine W_norm rfl ?_)
          | (refine W_loadOP hs 1 rfl rfl rfl (by first | omega | (simp only [List.length_set, List.length_append, List.length_take, List.length_drop, List.length_replicate, List.length_cons, List.length_nil, decs_length, List.length_map]; omega)) rfl ?_; refine W_norm rfl ?_)
          | (refine W_loadC hs 1 rfl rfl rfl ?_; refine W_norm rfl ?_)
          | (refine W_loadCA hs 1 rfl rfl rfl ?_; refine W_norm rfl ?_)
          | (refine W_loadO hs 2 rfl rfl rfl (by first | omega | (simp only [List.length_set, List.length_append, List.length_take, List.length_drop, List.length_replicate, List.length_cons, List.length_nil, decs_length, List.length_map]; omega)) rfl ?_; refine W_norm rfl ?_)
          | (refine W_loadOF hs 2 rfl rfl rfl (by first | omega | (simp only [List.length_set, List.length_append, List.length_take, List.length_drop, List.length_replicate, List.length_cons, List.length_nil, decs_length, List.length_map]; omega)) rfl ?_; refine W_norm rfl ?_)
          | (refine W_loadOA hs 2 rfl rfl rfl (by first | omega | (simp only [List.length_set, List.length_append, List.length_take, List.length_drop, List.length_replicate, List.length_cons, List.length_nil, decs_length, List.length_map]; omega)) ?_; refine W_norm rfl ?_)
          | (refine W_loadOP hs 2 rfl rfl rfl (by first | omega | (simp only [List.length_set, List.length_append, List.length_take, List.length_drop, List.length_replicate, List.length_cons, List.length_nil, decs_length, List.length_map]; omega)) rfl ?_; refine W_norm rfl ?_)
          | (refine W_loadC hs 2 rfl rfl rfl ?_; refine W_norm rfl ?_)
          | (refine W_loadCA hs 2 rfl rfl rfl ?_; refine W_norm rfl ?_)
        )
        | (refine K_store ?_; first
          | (refine W_storeO hs 0 rfl rfl rfl rfl rfl (by first | omega | (simp only [List.length_set, List.length_append, List.length_take, List.length_drop, List.length_replicate, List.length_cons, List.length_nil, decs_length, List.length_map]; omega)) (by first | decide | assumption) rfl ?_; clear hs; intro _ hs; try simp only [cell_back, attr_back, List.set_cons_zero, List.set_cons_succ, List.eraseIdx_cons_succ, List.eraseIdx_zero, List.tail_cons, List.nil_append, List.cons_append] at hs; refine W_norm rfl ?_)
          | (refine W_storeOF hs 0 rfl rfl rfl rfl rfl (by first | omega | (simp only [List.length_set, List.length_append, List.length_take, List.length_drop, List.length_replicate, List.length_cons, List.length_nil, decs_length, List.length_map]; omega)) (by first | decide | assumption) rfl rfl rfl rfl ?_; clear hs; intro _ hs; try simp only [cell_back, attr_back, List.set_cons_zero, List.set_cons_succ, List.eraseIdx_cons_succ, List.eraseIdx_zero, List.tail_cons, List.nil_append, List.cons_append] at hs; refine W_norm rfl ?_)
          | (refine W_storeC hs 0 rfl rfl rfl rfl (by first | decide | assumption) rfl rfl ?_; clear hs; intro _ hs; try simp only [cell_back, attr_back, List.set_cons_zero, List.set_cons_succ, List.eraseIdx_cons_succ, List.eraseIdx_zero, List.tail_cons, List.nil_append, List.cons_append] at hs; refine W_norm rfl ?_)
          | (refine W_storeO hs 1 rfl rfl rfl rfl rfl (by first | omega | (simp only [List.length_set, List.length_append, List.length_take, List.length_drop, List.length_replicate, List.length_cons, List.length_nil, decs_length, List.length_map]; omega)) (by first | decide | assumption) rfl ?_; clear hs; intro _ hs; try simp only [cell_back, attr_back, List.set_cons_zero, List.set_cons_succ, List.eraseIdx_cons_succ, List.eraseIdx_zero, List.tail_cons, List.nil_append, List.cons_append] at hs; refine W_norm rfl ?_)
          | (refine W_storeOF hs 1 rfl rfl rfl rfl rfl (by first | omega | (simp only [List.length_set, List.length_append, List.length_take, List.length_drop, List.length_replicate, List.length_cons, List.length_nil, decs_length, List.length_map]; omega)) (by first | decide | assumption) rfl rfl rfl rfl ?_; clear hs; intro _ hs; try simp only [cell_back, attr_back, List.set_cons_zero, List.set_cons_succ, List.eraseIdx_cons_succ, List.eraseIdx_zero, List.tail_cons, List.nil_append, List.cons_append] at hs; refine W_norm rfl ?_)
          | (refine W_storeC hs 1 rfl rfl rfl rfl (by first | decide | assumption) rfl rfl ?_; clear hs; intro _ hs; try simp only [cell_back, attr_back, List.set_cons_zero, List.set_cons_succ, List.eraseIdx_cons_succ, List.eraseIdx_zero, List.tail_cons, List.nil_append, List.cons_append] at hs; refine W_norm rfl ?_)
          | (refine W_storeO hs 2 rfl rfl rfl rfl rfl (by first | omega | (simp only [List.length_set, List.length_append, List.length_take, List.length_drop, List.length_replicate, List.length_cons, List.length_nil, decs_length, List.length_map]; omega)) (by first | decide | assumption) rfl ?_; clear hs; intro _ hs; try simp only [cell_back, attr_back, List.set_cons_zero, List.set_cons_succ, List.eraseIdx_cons_succ, List.eraseIdx_zero, List.tail_cons, List.nil_append, List.cons_append] at hs; refine W_norm rfl ?_)
          | (refine W_storeOF hs 2 rfl rfl rfl rfl rfl (by first | omega | (simp only [List.length_set, List.length_append, List.length_take, List.length_drop, List.length_replicate, List.length_cons, List.length_nil, decs_length, List.length_map]; omega)) (by first | decide | assumption) rfl rfl rfl rfl ?_; clear hs; intro _ hs; try simp only [cell_back, attr_back, List.set_cons_zero, List.set_cons_succ, List.eraseIdx_cons_succ, List.eraseIdx_zero, List.tail_cons, List.nil_append, List.cons_append] at hs; refine W_norm rfl ?_)
          | (refine W_storeC hs 2 rfl rfl rfl rfl (by first | decide | assumption) rfl rfl ?_; clear hs; intro _ hs; try simp only [cell_back, attr_back, List.set_cons_zero, List.set_cons_succ, List.eraseIdx_cons_succ, List.eraseIdx_zero, List.tail_cons, List.nil_append, List.cons_append] at hs; refine W_norm rfl ?_)
        )
        | (refine W_allocS hs ?_; clear hs; intro al _ hs; try simp only [cell_back, attr_back, List.set_cons_zero, List.set_cons_succ, List.eraseIdx_cons_succ, List.eraseIdx_zero, List.tail_cons, List.nil_append, List.cons_append] at hs; refine W_norm rfl ?_)
        | (refine W_boxS hs rfl rfl ?_; clear hs; intro bx _ hs; try simp only [cell_back, attr_back, List.set_cons_zero, List.set_cons_succ, List.eraseIdx_cons_succ, List.eraseIdx_zero, List.tail_cons, List.nil_append, List.cons_append] at hs; refine W_norm rfl ?_)
        | (refine K_slice ?_; first
          | (refine W_sliceO0 rfl rfl rfl (by first | omega | (simp only [List.length_set, List.length_append, List.length_take, List.length_drop, List.length_replicate, List.length_cons, List.length_nil, decs_length, List.length_map]; omega)) ⟨(by first | omega | (simp only [List.length_set, List.length_append, List.length_take, List.length_drop, List.length_replicate, List.length_cons, List.length_nil, decs_length, List.length_map]; omega)), (by first | omega | (simp only [List.length_set, List.length_append, List.length_take, List.length_drop, List.length_replicate, List.length_cons, List.length_nil, decs_length, List.length_map]; omega)), (by first | omega | (simp only [List.length_set, List.length_append, List.length_take, List.length_drop, List.length_replicate, List.length_cons, List.length_nil, decs_length, List.length_map]; omega))⟩ ?_; intro _ _; refine W_norm rfl ?_)
          | (refine W_sliceO0To rfl rfl (by first | omega | (simp only [List.length_set, List.length_append, List.length_take, List.length_drop, List.length_replicate, List.length_cons, List.length_nil, decs_length, List.length_map]; omega)) ⟨(by first | omega | (simp only [List.length_set, List.length_append, List.length_take, List.length_drop, List.length_replicate, List.length_cons, List.length_nil, decs_length, List.length_map]; omega)), (by first | omega | (simp only [List.length_set, List.length_append, List.length_take, List.length_drop, List.length_replicate, List.length_cons, List.length_nil, decs_length, List.length_map]; omega))⟩ ?_; intro _ _; refine W_norm rfl ?_)
          | (refine W_sliceO0From rfl rfl (by first | omega | (simp only [List.length_set, List.length_append, List.length_take, List.length_drop, List.length_replicate, List.length_cons, List.length_nil, decs_length, List.length_map]; omega)) ⟨(by first | omega | (simp only [List.length_set, List.length_append, List.length_take, List.length_drop, List.length_replicate, List.length_cons, List.length_nil, decs_length, List.length_map]; omega)), (by first | omega | (simp only [List.length_set, List.length_append, List.length_take, List.length_drop, List.length_replicate, List.length_cons, List.length_nil, decs_length, List.length_map]; omega))⟩ ?_; intro _ _; refine W_norm rfl ?_)
          | (refine W_sliceR rfl rfl rfl (by assumption) rfl ⟨(by first | omega | (simp only [List.length_set, List.length_append, List.length_take, List.length_drop, List.length_replicate, List.length_cons, List.length_nil, decs_length, List.length_map]; omega)), (by first | omega | (simp only [List.length_set, List.length_append, List.length_take, List.length_drop, List.length_replicate, List.length_cons, List.length_nil, decs_length, List.length_map]; omega)), (by first | omega | (simp only [List.length_set, List.length_append, List.length_take, List.length_drop, List.length_replicate, List.length_cons, List.length_nil, decs_length, List.length_map]; omega))⟩ ?_; intro _ _; refine W_norm rfl ?_)
          | (refine W_sliceRTo rfl rfl (by assumption) rfl ⟨(by first | omega | (simp only [List.length_set, List.length_append, List.length_take, List.length_drop, List.length_replicate, List.length_cons, List.length_nil, decs_length, List.length_map]; omega)), (by first | omega | (simp only [List.length_set, List.length_append, List.length_take, List.length_drop, List.length_replicate, List.length_cons, List.length_nil, decs_length, List.length_map]; omega))⟩ ?_; intro _ _; refine W_norm rfl ?_)
          | (refine W_sliceRFrom rfl rfl (by assumption) rfl ⟨(by first | omega | (simp only [List.length_set, List.length_append, List.length_take, List.length_drop, List.length_replicate, List.length_cons, List.length_nil, decs_length, List.length_map]; omega)), (by first | omega | (simp only [List.length_set, List.length_append, List.length_take, List.length_drop, List.length_replicate, List.length_cons, List.length_nil, decs_length, List.length_map]; omega))⟩ ?_; intro _ _; refine W_norm rfl ?_)
        )
        | (refine K_append ?_; first
          | (refine W_appS hs 0 rfl rfl (by assumption) rfl (by first | assumption | exact SlR.now hs (by assumption) | exact AccS.now (by assumption) hs (by simp) | exact OwnS.now (by assumption) hs (by simp)) rfl ⟨by decide, (by first | omega | (simp only [List.length_set, List.length_append, List.length_take, List.length_drop, List.length_replicate, List.length_cons, List.length_nil, decs_length, List.length_map]; omega))⟩ ?_; clear hs; intro _ _ _ _ hs; try simp only [cell_back, attr_back, List.set_cons_zero, List.set_cons_succ, List.eraseIdx_cons_succ, List.eraseIdx_zero, List.tail_cons, List.nil_append, List.cons_append] at hs; refine W_norm rfl ?_)
          | (refine W_appS hs 1 rfl rfl (by assumption) rfl (by first | assumption | exact SlR.now hs (by assumption) | exact AccS.now (by assumption) hs (by simp) | exact OwnS.now (by assumption) hs (by simp)) rfl ⟨by decide, (by first | omega | (simp only [List.length_set, List.length_append, List.length_take, List.length_drop, List.length_replicate, List.length_cons, List.length_nil, decs_length, List.length_map]; omega))⟩ ?_; clear hs; intro _ _ _ _ hs; try simp only [cell_back, attr_back, List.set_cons_zero, List.set_cons_succ, List.eraseIdx_cons_succ, List.eraseIdx_zero, List.tail_cons, List.nil_append, List.cons_append] at hs; refine W_norm rfl ?_)
          | (refine W_appS hs 2 rfl rfl (by assumption) rfl (by first | assumption | exact SlR.now hs (by assumption) | exact AccS.now (by assumption) hs (by simp) | exact OwnS.now (by assumption) hs (by simp)) rfl ⟨by decide, (by first | omega | (simp only [List.length_set, List.length_append, List.length_take, List.length_drop, List.length_replicate, List.length_cons, List.length_nil, decs_length, List.length_map]; omega))⟩ ?_; clear hs; intro _ _ _ _ hs; try simp only [cell_back, attr_back, List.set_cons_zero, List.set_cons_succ, List.eraseIdx_cons_succ, List.eraseIdx_zero, List.tail_cons, List.nil_append, List.cons_append] at hs; refine W_norm rfl ?_)
        )
        | (refine K_copy ?_; first
          | (refine W_copyV hs 0 rfl rfl (by first | assumption | exact VwO.whole) rfl (by first | decide | assumption) rfl (by first | omega | (simp only [List.length_set, List.length_append, List.length_take, List.length_drop, List.length_replicate, List.length_cons, List.length_nil, decs_length, List.length_map]; omega)) (by first | exact VwO.sl (by assumption) (hs.at1 0 rfl) (by first | omega | (simp only [List.length_set, List.length_append, List.length_take, List.length_drop, List.length_replicate, List.length_cons, List.length_nil, decs_length, List.length_map]; omega)) | exact VwO.sl (by assumption) (hs.at1 1 rfl) (by first | omega | (simp only [List.length_set, List.length_append, List.length_take, List.length_drop, List.length_replicate, List.length_cons, List.length_nil, decs_length, List.length_map]; omega)) | exact VwO.sl (by assumption) (hs.at1 2 rfl) (by first | omega | (simp only [List.length_set, List.length_append, List.length_take, List.length_drop, List.length_replicate, List.length_cons, List.length_nil, decs_length, List.length_map]; omega)) | assumption | exact SlR.now hs (by assumption) | exact AccS.now (by assumption) hs (by simp) | exact OwnS.now (by assumption) hs (by simp)) ?_; clear hs; intro _ hs; try simp only [cell_back, attr_back, List.set_cons_zero, List.set_cons_succ, List.eraseIdx_cons_succ, List.eraseIdx_zero, List.tail_cons, List.nil_append, List.cons_append] at hs; refine W_norm rfl ?_)
          | (refine W_copyV hs 1 rfl rfl (by first | assumption | exact VwO.whole) rfl (by first | decide | assumption) rfl (by first | omega | (simp only [List.length_set, List.length_append, List.length_take, List.length_drop, List.length_replicate, List.length_cons, List.length_nil, decs_length, List.length_map]; omega)) (by first | exact VwO.sl (by assumption) (hs.at1 1 rfl) (by first | omega | (simp only [List.length_set, List.length_append, List.length_take, List.length_drop, List.length_replicate, List.length_cons, List.length_nil, decs_length, List.length_map]; omega)) | exact VwO.sl (by assumption) (hs.at1 0 rfl) (by first | omega | (simp only [List.length_set, List.length_append, List.length_take, List.length_drop, List.length_replicate, List.length_cons, List.length_nil, decs_length, List.length_map]; omega)) | exact VwO.sl (by assumption) (hs.at1 2 rfl) (by first | omega | (simp only [List.length_set, List.length_append, List.length_take, List.length_drop, List.length_replicate, List.length_cons, List.length_nil, decs_length, List.length_map]; omega)) | assumption | exact SlR.now hs (by assumption) | exact AccS.now (by assumption) hs (by simp) | exact OwnS.now (by assumption) hs (by simp)) ?_; clear hs; intro _ hs; try simp only [cell_back, attr_back, List.set_cons_zero, List.set_cons_succ, List.eraseIdx_cons_succ, List.eraseIdx_zero, List.tail_cons, List.nil_append, List.cons_append] at hs; refine W_norm rfl ?_)
          | (refine W_copyV hs 2 rfl rfl (by first | assumption | exact VwO.whole) rfl (by first | decide | assumption) rfl (by first | omega | (simp only [List.length_set, List.length_append, List.length_take, List.length_drop, List.length_replicate, List.length_cons, List.length_nil, decs_length, List.length_map]; omega)) (by first | exact VwO.sl (by assumption) (hs.at1 2 rfl) (by first | omega | (simp only [List.length_set, List.length_append, List.length_take, List.length_drop, List.length_replicate, List.length_cons, List.length_nil, decs_length, List.length_map]; omega)) | exact VwO.sl (by assumption) (hs.at1 0 rfl) (by first | omega | (simp only [List.length_set, List.length_append, List.length_take, List.length_drop, List.length_replicate, List.length_cons, List.length_nil, decs_length, List.length_map]; omega)) | exact VwO.sl (by assumption) (hs.at1 1 rfl) (by first | omega | (simp only [List.length_set, List.length_append, List.length_take, List.length_drop, List.length_replicate, List.length_cons, List.length_nil, decs_length, List.length_map]; omega)) | assumption | exact SlR.now hs (by assumption) | exact AccS.now (by assumption) hs (by simp) | exact OwnS.now (by assumption) hs (by simp)) ?_; clear hs; intro _ hs; try simp only [cell_back, attr_back, List.set_cons_zero, List.set_cons_succ, List.eraseIdx_cons_succ, List.eraseIdx_zero, List.tail_cons, List.nil_append, List.cons_append] at hs; refine W_norm rfl ?_)
        )
        | (refine W_buildN rfl ?_; refine W_norm rfl ?_)
        | (refine W_min2 rfl rfl ?_; refine W_norm rfl ?_)
        | (refine W_max2 rfl rfl ?_; refine W_norm rfl ?_)
        | (refine W_convint rfl (IntWalk.i64_in _ (by omega)) ?_; refine W_norm rfl ?_)
        | (refine W_convint rfl (IntWalk.i32_in _ (by omega)) ?_; refine W_norm rfl ?_)
        | (refine W_convint rfl (IntWalk.u8_in _ (by omega)) ?_; refine W_norm rfl ?_)
        | (refine W_sliceStr rfl rfl rfl ⟨(by first | omega | (simp only [List.length_set, List.length_append, List.length_take, List.length_drop, List.length_replicate, List.length_cons, List.length_nil, decs_length, List.length_map]; omega)), (by first | omega | (simp only [List.length_set, List.length_append, List.length_take, List.length_drop, List.length_replicate, List.length_cons, List.length_nil, decs_length, List.length_map]; omega)), (by first | omega | (simp only [List.length_set, List.length_append, List.length_take, List.length_drop, List.length_replicate, List.length_cons, List.length_nil, decs_length, List.length_map]; omega))⟩ ?_; refine W_norm rfl ?_)
        | (refine W_sliceStrTo rfl rfl ⟨(by first | omega | (simp only [List.length_set, List.length_append, List.length_take, List.length_drop, List.length_replicate, List.length_cons, List.length_nil, decs_length, List.length_map]; omega)), (by first | omega | (simp only [List.length_set, List.length_append, List.length_take, List.length_drop, List.length_replicate, List.length_cons, List.length_nil, decs_length, List.length_map]; omega))⟩ ?_; refine W_norm rfl ?_)
        | (refine W_sliceStrFrom rfl rfl ⟨(by first | omega | (simp only [List.length_set, List.length_append, List.length_take, List.length_drop, List.length_replicate, List.length_cons, List.length_nil, decs_length, List.length_map]; omega)), (by first | omega | (simp only [List.length_set, List.length_append, List.length_take, List.length_drop, List.length_replicate, List.length_cons, List.length_nil, decs_length, List.length_map]; omega))⟩ ?_; refine W_norm rfl ?_)
        | (refine W_ptrUnsafe hs 0 rfl rfl rfl ?_; refine W_norm rfl ?_)
        | (refine W_ptrUnsafe hs 1 rfl rfl rfl ?_; refine W_norm rfl ?_)
        | (refine W_ptrUnsafe hs 2 rfl rfl rfl ?_; refine W_norm rfl ?_)
        | (refine W_unsafePtr hs 0 rfl rfl rfl ?_; refine W_norm rfl ?_)
        | (refine W_unsafePtr hs 1 rfl rfl rfl ?_; refine W_norm rfl ?_)
        | (refine W_unsafePtr hs 2 rfl rfl rfl ?_; refine W_norm rfl ?_)
        | (refine W_usliceN rfl ?_; refine W_norm rfl ?_)
        | (refine W_usliceS rfl (by first | assumption | omega) ?_; refine W_norm rfl ?_)
        | (refine W_ustringN rfl rfl ?_; refine W_norm rfl ?_)
        | (refine W_ustringS hs 0 rfl rfl rfl (by first | decide | assumption) ⟨by omega, by omega⟩ (by assumption) (by assumption) ?_; clear hs; intro _ hs; try simp only [cell_back, attr_back, List.set_cons_zero, List.set_cons_succ, List.eraseIdx_cons_succ, List.eraseIdx_zero, List.tail_cons, List.nil_append, List.cons_append] at hs; refine W_norm rfl ?_)
        | (refine W_ustringS hs 1 rfl rfl rfl (by first | decide | assumption) ⟨by omega, by omega⟩ (by assumption) (by assumption) ?_; clear hs; intro _ hs; try simp only [cell_back, attr_back, List.set_cons_zero, List.set_cons_succ, List.eraseIdx_cons_succ, List.eraseIdx_zero, List.tail_cons, List.nil_append, List.cons_append] at hs; refine W_norm rfl ?_)
        | (refine W_ustringS hs 2 rfl rfl rfl (by first | decide | assumption) ⟨by omega, by omega⟩ (by assumption) (by assumption) ?_; clear hs; intro _ hs; try simp only [cell_back, attr_back, List.set_cons_zero, List.set_cons_succ, List.eraseIdx_cons_succ, List.eraseIdx_zero, List.tail_cons, List.nil_append, List.cons_append] at hs; refine W_norm rfl ?_)
        | (refine W_convint rfl rfl ?_; refine W_norm rfl ?_)
        | refine W_indexArr rfl rfl ⟨by omega, by omega⟩ (W_norm rfl ?_)
        | (refine W_idxStr rfl rfl ⟨(by first | omega | (simp only [List.length_set, List.length_append, List.length_take, List.length_drop, List.length_replicate, List.length_cons, List.length_nil, decs_length, List.length_map]; omega)), (by first | omega | (simp only [List.length_set, List.length_append, List.length_take, List.length_drop, List.length_replicate, List.length_cons, List.length_nil, decs_length, List.length_map]; omega))⟩ ?_; refine W_norm rfl ?_)
      )
      | (refine K_code ?_; first
        | refine W_seq ?_
        | refine W_ops ?_
        | refine W_cond_t rfl ?_
        | refine W_cond_f rfl ?_
        | (refine W_cond rfl (fun hc => ?_) (fun hc => ?_) <;> (try rw [hc]) <;> (try simp only [decide_eq_true_eq, decide_eq_false_iff_not, beq_iff_eq, beq_eq_false_iff_ne, bne_iff_ne, bne_eq_false_iff_eq, Bool.not_eq_true', Bool.not_eq_false', Int.not_lt, Int.not_le, ne_eq, reduceCtorEq, not_true_eq_false, not_false_eq_true, Decidable.not_not] at hc) <;> (try (exfalso; omega)) <;> (try refine W_norm rfl ?_))
        | refine W_skip ?_
        | refine W_ret ?_
        | refine W_exit ?_
        | refine W_block ?_
        | refine W_draw rfl ?_
      )
      | refine seqK_n ?_
      | refine seqK_r ?_
      | refine seqK_x ?_
      | refine blockK_r ?_
      | refine blockK_n ?_
      | refine blockK_e ?_
      | refine blockK_x rfl ?_
      | refine loopK_x ?_
      | refine loopK_r ?_
      | refine invK_x ?_
      | refine invK_r ?_
      | refine invK_n ?_
      | refine midK_n ?_
      | refine midK_x ?_
      | refine midK_r ?_
      | (refine fnK_cellS hs 0 rfl rfl rfl rfl ?_)
      | (refine fnK_cellS hs 1 rfl rfl rfl rfl ?_)
      | (refine fnK_cellS hs 2 rfl rfl rfl rfl ?_)
      | (refine fnK_cellT hs 0 rfl rfl rfl rfl rfl rfl ?_)
      | (refine fnK_cellT hs 1 rfl rfl rfl rfl rfl rfl ?_)
      | (refine fnK_cellT hs 2 rfl rfl rfl rfl rfl rfl ?_)
      | (refine fnK_r rfl ?_; try dsimp only [gd_z, gd_s])
      | (refine fnK_n rfl ?_; try dsimp only [gd_z, gd_s]))
    all_goals first | exact ⟨_, rfl, rfl⟩ | (exfalso; exact hlen ⟨by omega, by omega⟩)
theorem walk_decodeJoins (H : Heap) (avs : List AV) (hwf : H.l.length = H.n) (hs : Sub (HL Try.prog.globals.size jxLs) H) (ho : OpenA H [(false, [.str]), (false, [.str])] avs) : W DD (.call 8 avs H) (fun _ vs _ => vs = [.sc (.bool true)]) := by
  simp only [OpenA] at ho
  obtain ⟨_, _, _, hk, rfl, o1, _, _, _, hk2, rfl, o2, rfl⟩ := ho
  cases hk
  cases hk2
  simp only [OpenS] at o1 o2
  obtain ⟨a, rfl, ha⟩ := o1
  obtain ⟨b, rfl, hb⟩ := o2
  exact (w8 ha hb).mono fun _ _ _ ⟨v, hv, h3⟩ => by rw [hv, h3]
end Go.Proofs.Ytcgfcnbcfcllpaa
