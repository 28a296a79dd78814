/- The laws DecodeTells and DecodeFew. CLNONE -/
import Derived.Test.YtcgfcnbcfcllpaaJxW05h
set_option linter.unusedSimpArgs false
set_option linter.unusedVariables false
set_option maxHeartbeats 4000000
set_option maxRecDepth 100000
namespace Go.Proofs.Ytcgfcnbcfcllpaa
open Go Go.Jx

theorem w9 (h : Heap) : Wc DD 9 [] h fun v h' => v = .sc (.bool true) ∧ h' = h := W_known rfl
def outC (l : List Int) : List SV := [.int .i32 (l.getD 0 0), .int .i32 (l.getD 1 0)]
theorem outA_eq (l : List Int) : outA l = .tup [.agg (outC l), i64 (l.length : Int)] := rfl

theorem w4_end {s : List UInt8} {h0 h : Heap} {b1 b2 : Nat} {e : List AV} (hs : Sep (Now h0) [[(b1, .cells 28 .own (encD (runP dec0 s).1))], [(b2, .cells 31 .own [.str (runB [] s).1])]] h) (hl2 : s.length ≤ 20000)
    (he : EnvIs 123 [(0, .sc (.str s)), (3, .sc (.ptr b1 0)), (4, .sc (.ptr b2 0))] e) : W DD (.code (.seq (.ops m4_r21) (.seq (.seq (.ops m4_r22) (.cond (.t 117) (.seq (.ops m4_r23) .ret) .skip)) (.seq (.ops m4_r24) .ret))) e h) (fnK m4 fun _ vs h' => ∃ v, vs = [v] ∧ v = bo true ∧ Sep (Now h0) [] h') := by
  obtain ⟨us, rfl⟩ := he.list
  have hkp := runB_kept s
  have hal := allB_eq s
  have hlp := allP_len s
  have hkb : (runB [] s).1 = [] ↔ (runP dec0 s).1.kept = 0 := by
    rw [hkp]
    constructor
    · intro h; rw [h]; rfl
    · intro h; exact List.eq_nil_of_length_eq_zero (by omega)
  by_cases h0 : (runP dec0 s).1.kept = 0
  · have hb0 := hkb.2 h0
    have he0 : endL (runP dec0 s).1 = (0, false) := if_pos h0
    repeat' (first
      | (refine K_ops ?_; first
        | refine W_fastB rfl ?_
        | refine W_nil ?_
        | (refine K_guard ?_; first
          | refine W_guard_on rfl ?_
          | refine W_guard_off rfl rfl (W_norm rfl ?_)
        )
        | (refine K_call ?_; first
          | (refine W_callsN 15 rfl (w15s hs) rfl ?_; rintro _ h3 ⟨rfl, hs2⟩; replace hs := hs2; clear hs2; rw [he0]; rw [if_pos h0, hb0] at hs; refine W_norm rfl ?_)
          | (refine W_callsN 14 rfl (w14s hs 0 rfl) rfl ?_; rintro _ h3 ⟨rfl, rfl⟩; rw [h0]; refine W_norm rfl ?_)
          | (refine W_callsN 11 rfl (w11s (s := s) hl2) rfl ?_; rintro _ h3 ⟨u3, rfl, hu3, t⟩; replace hs := hs.call t; try simp only [cell_back, attr_back, List.set_cons_zero, List.set_cons_succ, List.eraseIdx_cons_succ, List.eraseIdx_zero, List.tail_cons, List.nil_append, List.cons_append] at hs; refine W_norm rfl ?_)
          | (refine W_callsN 16 rfl (w16s (l := s) hl2) rfl ?_; rintro _ h4 ⟨u4, c4, rfl, ha4, t⟩; replace hu3 := hu3.mono t.le; replace hs := hs.call t; try simp only [cell_back, attr_back, List.set_cons_zero, List.set_cons_succ, List.eraseIdx_cons_succ, List.eraseIdx_zero, List.tail_cons, List.nil_append, List.cons_append] at hs; rw [hal] at ha4; refine W_norm rfl ?_)
          | (refine W_callsN 10 rfl (w10s hu3 (AccS.now ha4 hs (by simp)) (by omega) (by omega)) rfl ?_; rintro _ h5 ⟨rfl, rfl⟩; rw [decide_eq_true rfl]; refine W_norm rfl ?_)
        )
        | (refine K_pick ?_; first
          | refine W_pick_t rfl rfl (W_norm rfl ?_)
          | refine W_pick_f rfl rfl (W_norm rfl ?_)
        )
        | (refine K_load ?_; first
          | (refine W_loadC hs 1 rfl rfl rfl ?_; refine W_norm rfl ?_)
        )
      )
      | (refine K_code ?_; first
        | refine W_seq ?_
        | refine W_ops ?_
        | refine W_cond_f rfl ?_
        | refine W_skip ?_
        | refine W_ret ?_
      )
      | refine seqK_n ?_
      | (refine fnK_r rfl ?_; try dsimp only [gd_z, gd_s]))
    exact ⟨_, rfl, rfl, ((hs.drop 0).drop 0).drop 0⟩
  · have hb0 : ¬ (runB [] s).1 = [] := fun h => h0 (hkb.1 h)
    have he0 : endL (runP dec0 s).1 = (65533, true) := if_neg h0
    have hbe0 : ((runB [] s).1 == []) = false := beq_eq_false_iff_ne.2 hb0
    repeat' (first
      | (refine K_ops ?_; first
        | refine W_fastB rfl ?_
        | refine W_nil ?_
        | (refine K_guard ?_; first
          | refine W_guard_on rfl ?_
          | refine W_guard_off rfl rfl (W_norm rfl ?_)
          | refine W_guard_u rfl (W_norm rfl ?_)
          | (refine W_guardF rfl (fun hc => ?_) (fun hc => ?_) <;> (try rw [hc]) <;> (try simp only [decide_eq_true_eq, decide_eq_false_iff_not, beq_iff_eq, beq_eq_false_iff_ne, bne_iff_ne, bne_eq_false_iff_eq, Bool.not_eq_true', Bool.not_eq_false', Int.not_lt, Int.not_le, ne_eq, reduceCtorEq, not_true_eq_false, not_false_eq_true, Decidable.not_not] at hc) <;> (try (exfalso; omega)) <;> (try refine W_norm rfl ?_))
        )
        | (refine K_call ?_; first
          | (refine W_callsN 15 rfl (w15s hs) rfl ?_; rintro _ h3 ⟨rfl, hs2⟩; replace hs := hs2; clear hs2; rw [he0]; rw [if_neg h0] at hs; refine W_norm rfl ?_)
          | (refine W_callsN 14 rfl (w14s hs 0 rfl) rfl ?_; rintro _ h3 ⟨rfl, rfl⟩; rw [show dec0.kept = 0 from rfl]; refine W_norm rfl ?_)
          | (refine W_callsN 11 rfl (w11s (s := s) hl2) rfl ?_; rintro _ h3 ⟨u3, rfl, hu3, t⟩; replace hs := hs.call t; try simp only [cell_back, attr_back, List.set_cons_zero, List.set_cons_succ, List.eraseIdx_cons_succ, List.eraseIdx_zero, List.tail_cons, List.nil_append, List.cons_append] at hs; refine W_norm rfl ?_)
          | (refine W_callsN 16 rfl (w16s (l := s) hl2) rfl ?_; rintro _ h4 ⟨u4, c4, rfl, ha4, t⟩; replace hu3 := hu3.mono t.le; replace hs := hs.call t; try simp only [cell_back, attr_back, List.set_cons_zero, List.set_cons_succ, List.eraseIdx_cons_succ, List.eraseIdx_zero, List.tail_cons, List.nil_append, List.cons_append] at hs; rw [hal] at ha4; refine W_norm rfl ?_)
          | (refine W_callsN 10 rfl (w10s hu3 (AccS.now ha4 hs (by simp)) (by omega) (by omega)) rfl ?_; rintro _ h5 ⟨rfl, rfl⟩; rw [decide_eq_true rfl]; refine W_norm rfl ?_)
        )
        | (refine K_pick ?_; first
          | refine W_pick_t rfl rfl (W_norm rfl ?_)
          | refine W_pick_f rfl rfl (W_norm rfl ?_)
        )
        | (refine K_load ?_; first
          | (refine W_loadC hs 1 rfl rfl rfl ?_; refine W_norm rfl ?_)
        )
      )
      | (refine K_code ?_; first
        | refine W_seq ?_
        | refine W_ops ?_
        | refine W_cond_t rfl ?_
        | refine W_cond_f rfl ?_
        | refine W_skip ?_
        | refine W_ret ?_
      )
      | refine seqK_n ?_
      | refine seqK_r ?_
      | (refine fnK_r rfl ?_; try dsimp only [gd_z, gd_s]))
    all_goals first
      | exact ⟨_, rfl, rfl, ((hs.drop 0).drop 0).drop 0⟩
      | exact absurd (by rw [hbe0]; rfl) hc

theorem w4 {s : List UInt8} {h : Heap} : Wc DD 4 [.sc (.str s)] h fun v h' => v = bo true ∧ Sep (Now h) [] h' := by
  have hs := Sep.entry h
  refine W_enter d4 ?_
  show W _ (.code m4_code [.sc (.str s), undefA, undefA, undefA, undefA, undefA, undefA, undefA, undefA, undefA, undefA, undefA, undefA, undefA, undefA, undefA, undefA, undefA, undefA, undefA, undefA, undefA, undefA, undefA, undefA, undefA, undefA, undefA, undefA, undefA, undefA, undefA, undefA, undefA, undefA, undefA, undefA, undefA, undefA, undefA, undefA, undefA, undefA, undefA, undefA, undefA, undefA, undefA, undefA, undefA, undefA, undefA, undefA, undefA, undefA, undefA, undefA, undefA, undefA, undefA, undefA, undefA, undefA, undefA, undefA, undefA, undefA, undefA, undefA, undefA, undefA, undefA, undefA, undefA, undefA, undefA, undefA, undefA, undefA, undefA, undefA, undefA, undefA, undefA, undefA, undefA, undefA, undefA, undefA, undefA, undefA, undefA, undefA, undefA, undefA, undefA, undefA, undefA, undefA, undefA, undefA, undefA, undefA, undefA, undefA, undefA, undefA, undefA, undefA, undefA, undefA, undefA, undefA, undefA, undefA, undefA, undefA, undefA, undefA, undefA, undefA, undefA, undefA] _) _
  unfold m4_code
  by_cases hlen : s.length ≤ 5000
  · repeat' (first
      | (refine K_ops ?_; first
        | refine W_fastB rfl ?_
        | refine W_nil ?_
        | (refine K_call ?_; first
          | (refine W_callsN 9 rfl (w9 _) rfl ?_; rintro _ h ⟨rfl, rfl⟩; refine W_norm rfl ?_)
        )
        | (refine W_boxS hs rfl rfl ?_; clear hs; intro bx _ hs; try simp only [cell_back, attr_back, List.set_cons_zero, List.set_cons_succ, List.eraseIdx_cons_succ, List.eraseIdx_zero, List.tail_cons, List.nil_append, List.cons_append] at hs; refine W_norm rfl ?_)
        | (refine W_buildN rfl ?_; refine W_norm rfl ?_)
      )
      | (refine K_code ?_; first
        | refine W_seq ?_
        | refine W_ops ?_
        | refine W_cond_f rfl ?_
        | (refine W_cond rfl (fun hc => ?_) (fun hc => ?_) <;> (try rw [hc]) <;> (try simp only [decide_eq_true_eq, decide_eq_false_iff_not, beq_iff_eq, beq_eq_false_iff_ne, bne_iff_ne, bne_eq_false_iff_eq, Bool.not_eq_true', Bool.not_eq_false', Int.not_lt, Int.not_le, ne_eq, reduceCtorEq, not_true_eq_false, not_false_eq_true, Decidable.not_not] at hc) <;> (try (exfalso; omega)) <;> (try refine W_norm rfl ?_))
        | refine W_skip ?_
        | refine W_block ?_
      )
      | refine seqK_n ?_)
    generalize hb2 : bx = b2 at *
    rename_i b1 h1 h2
    refine W_loopB [2, 5, 6, 7, 8, 9, 21, 22, 23, 24, 25, 26, 27, 28, 29, 30, 31, 32, 33, 34, 35, 36, 37, 38, 39, 40, 41, 42, 43, 44, 45, 46, 47, 48, 49, 50, 51, 52, 53, 54, 55, 56, 57, 58, 59, 60, 61, 62, 63, 64, 65, 66, 67, 68, 69, 70, 71, 72, 73, 74, 75, 76, 77, 78, 79, 80, 81, 82, 83, 84, 85] [0, 1, 2, 3, 4, 5, 6, 7, 8, 9, 10, 11, 12, 13, 14, 15, 16, 17, 18, 19, 20, 21, 22, 23, 24, 25, 26, 27, 28, 29, 30, 31, 32, 33, 34, 35, 36, 37, 38, 39, 40, 41, 42, 43, 44, 45, 46, 47, 48, 49, 50, 51, 52, 53, 54, 55, 56, 57, 58, 59, 60, 61, 62, 63, 64, 65, 66, 67, 68, 69, 70, 71, 72, 73, 74, 75, 76, 77, 78, 79, 80, 81, 82, 83, 84, 85, 86, 87, 88, 89, 90, 91, 92, 93, 94, 95, 96, 97, 98, 99, 100, 101, 102, 103, 104, 105, 106, 107, 108, 109, 110, 111, 112, 113, 114, 115, 116, 117, 118, 119, 120, 121, 122] (fun n' sl h' => ∃ (i : Nat), sl = [(5, .sc (.int .i64 (i : Int)))] ∧ n' = s.length - i ∧ i ≤ s.length ∧ Sep (Now h) [[(b1, .cells 28 .own (encD (runP dec0 (s.take i)).1))], [(b2, .cells 31 .own [.str (runB [] (s.take i)).1])]] h') ?_ ?_
    · refine ⟨_, _, ⟨0, rfl, rfl, Nat.zero_le _, hs.front 1 rfl⟩, EnvB.of rfl⟩
    clear hs
    rintro _ _ us _ h3 ⟨i, rfl, rfl, hi, hs⟩ he
    refine W_spell he rfl ?_
    clear he
    unfold m4_l8
    have hsh := runB_short (s.take i)
    by_cases hlt : i < s.length
    · have hrb := runB_take hlt
      have hrp := runP_take (d := dec0) hlt
      have hb : 0 ≤ ((s.getD i 0).toNat : Int) ∧ ((s.getD i 0).toNat : Int) < 256 := ⟨by omega, by have := (s.getD i 0).toNat_lt; omega⟩
      have hok := run_ok (s.take i)
      have hsame := byte_same (runB_same (s.take i)).1 hb
      have hbe := congrArg Prod.snd (byteB_eq (runB [] (s.take i)).1 (s.getD i 0))
      simp only [] at hbe
      rw [hsame.2] at hbe
      have hol := byteL_len (runP dec0 (s.take i)).1 ((s.getD i 0).toNat : Int)
      have hkp := runB_kept (s.take (i + 1))
      rw [hrp, hrb] at hkp
      simp only [] at hkp
      repeat' (first
        | (refine K_ops ?_; first
          | refine W_fastB rfl ?_
          | refine W_nil ?_
          | (refine K_call ?_; first
            | (refine W_callsN 12 rfl (w12s (b := ((s.getD i 0).toNat : Int)) hs hb hok) rfl ?_; rintro _ h3 ⟨rfl, hs2⟩; replace hs := hs2; clear hs2; rw [outA_eq]; refine W_norm rfl ?_)
            | (refine W_callsN 13 rfl (w13s (b := s.getD i 0) (hs.front 2 rfl) hsh) rfl ?_; rintro _ h3 ⟨u2, c2, rfl, ha2, hs2⟩; replace hs := hs2; clear hs2; rw [hbe] at ha2; have hln2 := ha2.ln; try simp only [List.eraseIdx_cons_succ, List.eraseIdx_zero, List.tail_cons] at hs; refine W_norm rfl ?_)
          )
          | (refine K_store ?_; first
            | (refine W_storeC hs 0 rfl rfl rfl rfl (by first | decide | assumption) rfl rfl ?_; clear hs; intro _ hs; try simp only [cell_back, attr_back, List.set_cons_zero, List.set_cons_succ, List.eraseIdx_cons_succ, List.eraseIdx_zero, List.tail_cons, List.nil_append, List.cons_append] at hs; refine W_norm rfl ?_)
          )
          | (refine W_allocS hs ?_; clear hs; intro al _ hs; try simp only [cell_back, attr_back, List.set_cons_zero, List.set_cons_succ, List.eraseIdx_cons_succ, List.eraseIdx_zero, List.tail_cons, List.nil_append, List.cons_append] at hs; refine W_norm rfl ?_)
          | (refine W_idxStr rfl rfl ⟨(by first | omega | (simp only [List.length_set, List.length_append, List.length_take, List.length_drop, List.length_replicate, List.length_cons, List.length_nil, decs_length, List.length_map]; omega)), (by first | omega | (simp only [List.length_set, List.length_append, List.length_take, List.length_drop, List.length_replicate, List.length_cons, List.length_nil, decs_length, List.length_map]; omega))⟩ ?_; refine W_norm rfl ?_)
        )
        | (refine K_code ?_; first
          | refine W_seq ?_
          | refine W_ops ?_
          | (refine W_cond rfl (fun hc => ?_) (fun hc => ?_) <;> (try rw [hc]) <;> (try simp only [decide_eq_true_eq, decide_eq_false_iff_not, beq_iff_eq, beq_eq_false_iff_ne, bne_iff_ne, bne_eq_false_iff_eq, Bool.not_eq_true', Bool.not_eq_false', Int.not_lt, Int.not_le, ne_eq, reduceCtorEq, not_true_eq_false, not_false_eq_true, Decidable.not_not] at hc) <;> (try (exfalso; omega)) <;> (try refine W_norm rfl ?_))
          | refine W_skip ?_
          | refine W_block ?_
        )
        | refine seqK_n ?_)
      generalize hX : (byteL (runP dec0 (s.take i)).1 ((s.getD i 0).toNat : Int)).2 = X at *
      repeat' (first
        | (refine K_ops ?_; first
          | refine W_fastB rfl ?_
          | refine W_nil ?_
          | (refine K_guard ?_; first
            | refine W_guard_on rfl ?_
            | (refine W_guardF rfl (fun hc => ?_) (fun hc => ?_) <;> (try rw [hc]) <;> (try simp only [decide_eq_true_eq, decide_eq_false_iff_not, beq_iff_eq, beq_eq_false_iff_ne, bne_iff_ne, bne_eq_false_iff_eq, Bool.not_eq_true', Bool.not_eq_false', Int.not_lt, Int.not_le, ne_eq, reduceCtorEq, not_true_eq_false, not_false_eq_true, Decidable.not_not] at hc) <;> (try (exfalso; omega)) <;> (try refine W_norm rfl ?_))
          )
          | (refine K_call ?_; first
            | (refine W_callsN 14 rfl (w14s hs 3 rfl) rfl ?_; rintro _ _ ⟨rfl, rfl⟩; refine W_norm rfl ?_)
          )
          | (refine W_lenL rfl (by first | assumption | exact SlR.ln (by assumption) | exact AccS.ln (by assumption) | exact OwnS.ln (by assumption) | exact VwO.ln (by assumption) | exact OwnP.ln (by assumption) | exact Len.sl) ?_; refine W_norm rfl ?_)
          | (refine K_pick ?_; first
            | refine W_pick_f rfl rfl (W_norm rfl ?_)
          )
          | (refine K_load ?_; first
            | (refine W_loadC hs 1 rfl rfl rfl ?_; refine W_norm rfl ?_)
          )
        )
        | (refine K_code ?_; first
          | refine W_seq ?_
          | refine W_ops ?_
          | (refine W_cond rfl (fun hc => ?_) (fun hc => ?_) <;> (try rw [hc]) <;> (try simp only [decide_eq_true_eq, decide_eq_false_iff_not, beq_iff_eq, beq_eq_false_iff_ne, bne_iff_ne, bne_eq_false_iff_eq, Bool.not_eq_true', Bool.not_eq_false', Int.not_lt, Int.not_le, ne_eq, reduceCtorEq, not_true_eq_false, not_false_eq_true, Decidable.not_not] at hc) <;> (try (exfalso; omega)) <;> (try refine W_norm rfl ?_))
          | refine W_skip ?_
          | refine W_block ?_
          | refine W_draws ?_
        )
        | refine W_dstep rfl ?_
        | refine ⟨rfl, fun rc hrec => ?_⟩
        | (refine W_dnilS (by simp only [List.reverse_cons, List.reverse_nil, List.nil_append, List.cons_append]; rfl) (by repeat' first | exact CL_nil _ _ | refine CL_skip rfl ?_ | refine CL_none (by assumption) rfl ?_ | refine CL_load (by assumption) rfl (by first | exact trivial | (repeat' first | exact trivial | refine ⟨⟨_, rfl, (by refine (congrArg (fun x => Heap.get x _) (RecIs.hh (by assumption))).trans ?_; first | rfl | exact PtR.same_get (by assumption) (by assumption) (by assumption) | exact Sep.same_get (by assumption) (by assumption) 0 0 rfl rfl | exact Sep.same_get (by assumption) (by assumption) 0 1 rfl rfl | exact Sep.same_get (by assumption) (by assumption) 0 2 rfl rfl | exact Sep.same_get (by assumption) (by assumption) 0 3 rfl rfl | exact Sep.same_get (by assumption) (by assumption) 0 4 rfl rfl | exact Sep.same_get (by assumption) (by assumption) 1 0 rfl rfl | exact Sep.same_get (by assumption) (by assumption) 1 1 rfl rfl | exact Sep.same_get (by assumption) (by assumption) 1 2 rfl rfl | exact Sep.same_get (by assumption) (by assumption) 1 3 rfl rfl | exact Sep.same_get (by assumption) (by assumption) 1 4 rfl rfl | exact Sep.same_get (by assumption) (by assumption) 2 0 rfl rfl | exact Sep.same_get (by assumption) (by assumption) 2 1 rfl rfl | exact Sep.same_get (by assumption) (by assumption) 2 2 rfl rfl | exact Sep.same_get (by assumption) (by assumption) 2 3 rfl rfl | exact Sep.same_get (by assumption) (by assumption) 2 4 rfl rfl | exact Sep.same_get (by assumption) (by assumption) 3 0 rfl rfl | exact Sep.same_get (by assumption) (by assumption) 3 1 rfl rfl | exact Sep.same_get (by assumption) (by assumption) 3 2 rfl rfl | exact Sep.same_get (by assumption) (by assumption) 3 3 rfl rfl | exact Sep.same_get (by assumption) (by assumption) 3 4 rfl rfl | exact Sep.same_get (by assumption) (by assumption) 4 0 rfl rfl | exact Sep.same_get (by assumption) (by assumption) 4 1 rfl rfl | exact Sep.same_get (by assumption) (by assumption) 4 2 rfl rfl | exact Sep.same_get (by assumption) (by assumption) 4 3 rfl rfl | exact Sep.same_get (by assumption) (by assumption) 4 4 rfl rfl)⟩, ?_⟩)) (by first | exact trivial | (repeat' first | exact trivial | refine ⟨⟨_, rfl, (by refine (congrArg (fun x => Heap.get x _) (RecIs.hh' (by assumption))).trans ?_; first | rfl | exact PtR.same_get (by assumption) (by assumption) (by assumption) | exact Sep.same_get (by assumption) (by assumption) 0 0 rfl rfl | exact Sep.same_get (by assumption) (by assumption) 0 1 rfl rfl | exact Sep.same_get (by assumption) (by assumption) 0 2 rfl rfl | exact Sep.same_get (by assumption) (by assumption) 0 3 rfl rfl | exact Sep.same_get (by assumption) (by assumption) 0 4 rfl rfl | exact Sep.same_get (by assumption) (by assumption) 1 0 rfl rfl | exact Sep.same_get (by assumption) (by assumption) 1 1 rfl rfl | exact Sep.same_get (by assumption) (by assumption) 1 2 rfl rfl | exact Sep.same_get (by assumption) (by assumption) 1 3 rfl rfl | exact Sep.same_get (by assumption) (by assumption) 1 4 rfl rfl | exact Sep.same_get (by assumption) (by assumption) 2 0 rfl rfl | exact Sep.same_get (by assumption) (by assumption) 2 1 rfl rfl | exact Sep.same_get (by assumption) (by assumption) 2 2 rfl rfl | exact Sep.same_get (by assumption) (by assumption) 2 3 rfl rfl | exact Sep.same_get (by assumption) (by assumption) 2 4 rfl rfl | exact Sep.same_get (by assumption) (by assumption) 3 0 rfl rfl | exact Sep.same_get (by assumption) (by assumption) 3 1 rfl rfl | exact Sep.same_get (by assumption) (by assumption) 3 2 rfl rfl | exact Sep.same_get (by assumption) (by assumption) 3 3 rfl rfl | exact Sep.same_get (by assumption) (by assumption) 3 4 rfl rfl | exact Sep.same_get (by assumption) (by assumption) 4 0 rfl rfl | exact Sep.same_get (by assumption) (by assumption) 4 1 rfl rfl | exact Sep.same_get (by assumption) (by assumption) 4 2 rfl rfl | exact Sep.same_get (by assumption) (by assumption) 4 3 rfl rfl | exact Sep.same_get (by assumption) (by assumption) 4 4 rfl rfl)⟩, ?_⟩)) ?_) ?_)
        | refine seqK_n ?_)
      rcases X with _ | ⟨a, _ | ⟨b, _ | ⟨c, X⟩⟩⟩
      · refine W_loopB [2, 9, 58, 59, 60, 61, 62, 63, 64, 65, 66, 67, 68, 69, 70, 71, 72, 73, 74, 75, 76, 77, 78, 79, 80, 81, 82, 83, 84, 85] [0, 1, 2, 3, 4, 5, 6, 7, 8, 9, 10, 11, 12, 13, 14, 15, 16, 17, 18, 19, 20, 21, 22, 23, 24, 25, 26, 27, 28, 29, 30, 31, 32, 33, 34, 35, 36, 37, 38, 39, 40, 41, 42, 43, 44, 45, 46, 47, 48, 49, 50, 51, 52, 53, 54, 55, 56, 57, 58, 59, 60, 61, 62, 63, 64, 65, 66, 67, 68, 69, 70, 71, 72, 73, 74, 75, 76, 77, 78, 79, 80, 81, 82, 83, 84, 85, 86, 87, 88, 89, 90, 91, 92, 93, 94, 95, 96, 97, 98, 99, 100, 101, 102, 103, 104, 105, 106, 107, 108, 109, 110, 111, 112, 113, 114, 115, 116, 117, 118, 119, 120, 121, 122] (fun n' sl h' => ∃ (k : Nat), sl = [(9, .sc (.int .i64 (k : Int)))] ∧ n' = 2 - k ∧ k ≤ 2 ∧ Sep (Now h) [c2, [(b2, .cells 31 .own [.str (byteB (runB [] (s.take i)).1 (s.getD i 0)).1])], [(al, .cells 32 .own [.int .i32 (([] : List Int).getD 0 0), .int .i32 (([] : List Int).getD 1 0)])], [(b1, .cells 28 .own (encD (byteL (runP dec0 (s.take i)).1 ((s.getD i 0).toNat : Int)).1))]] h') ?_ ?_
        · refine ⟨_, _, ⟨0, rfl, rfl, Nat.zero_le _, hs⟩, EnvB.of rfl⟩
        clear hs
        rintro _ _ us _ h5 ⟨k, rfl, rfl, hk, hs⟩ he
        refine W_spell he rfl ?_
        clear he
        unfold m4_l15
        obtain rfl | rfl | rfl : k = 0 ∨ k = 1 ∨ k = 2 := by omega
        · repeat' (first
            | (refine K_ops ?_; first
              | refine W_fastB rfl ?_
              | refine W_nil ?_
              | (refine K_guard ?_; first
                | refine W_guard_on rfl ?_
                | refine W_guard_off rfl rfl (W_norm rfl ?_)
              )
              | (refine K_bin ?_; first
                | (refine W_add rfl rfl (IntWalk.i64_in _ (by first | omega | (simp only [List.length_set, List.length_append, List.length_take, List.length_drop, List.length_replicate, List.length_cons, List.length_nil, decs_length, List.length_map]; omega))) ?_; refine W_norm rfl ?_)
              )
              | (refine K_pick ?_; first
                | refine W_pick_t rfl rfl (W_norm rfl ?_)
                | refine W_pick_f rfl rfl (W_norm rfl ?_)
              )
              | (refine K_load ?_; first
                | (refine W_loadC hs 2 rfl rfl rfl ?_; refine W_norm rfl ?_)
              )
              | refine W_indexArr rfl rfl ⟨by omega, by omega⟩ (W_norm rfl ?_)
            )
            | (refine K_code ?_; first
              | refine W_seq ?_
              | refine W_ops ?_
              | refine W_cond_t rfl ?_
              | refine W_cond_f rfl ?_
              | refine W_skip ?_
              | refine W_block ?_
              | refine W_draw rfl ?_
            )
            | refine seqK_n ?_
            | refine blockK_n ?_
            | refine invK_n ?_)
          all_goals first | exact absurd rfl hc | (refine ⟨_, ?_, _, ⟨1, rfl, rfl, ?_, hs⟩, EnvB.of rfl⟩ <;> omega)
        · repeat' (first
            | (refine K_ops ?_; first
              | refine W_fastB rfl ?_
              | refine W_nil ?_
              | (refine K_guard ?_; first
                | refine W_guard_on rfl ?_
                | refine W_guard_off rfl rfl (W_norm rfl ?_)
              )
              | (refine K_bin ?_; first
                | (refine W_add rfl rfl (IntWalk.i64_in _ (by first | omega | (simp only [List.length_set, List.length_append, List.length_take, List.length_drop, List.length_replicate, List.length_cons, List.length_nil, decs_length, List.length_map]; omega))) ?_; refine W_norm rfl ?_)
              )
              | (refine K_pick ?_; first
                | refine W_pick_t rfl rfl (W_norm rfl ?_)
                | refine W_pick_f rfl rfl (W_norm rfl ?_)
              )
              | (refine K_load ?_; first
                | (refine W_loadC hs 2 rfl rfl rfl ?_; refine W_norm rfl ?_)
              )
              | refine W_indexArr rfl rfl ⟨by omega, by omega⟩ (W_norm rfl ?_)
            )
            | (refine K_code ?_; first
              | refine W_seq ?_
              | refine W_ops ?_
              | refine W_cond_t rfl ?_
              | refine W_cond_f rfl ?_
              | refine W_skip ?_
              | refine W_block ?_
              | refine W_draw rfl ?_
            )
            | refine seqK_n ?_
            | refine blockK_n ?_
            | refine invK_n ?_)
          all_goals first | exact absurd rfl hc | (refine ⟨_, ?_, _, ⟨2, rfl, rfl, ?_, hs⟩, EnvB.of rfl⟩ <;> omega)
        · repeat' (first
            | (refine K_ops ?_; first
              | refine W_fastB rfl ?_
              | refine W_nil ?_
              | (refine K_bin ?_; first
                | (refine W_add rfl rfl (IntWalk.i64_in _ (by first | omega | (simp only [List.length_set, List.length_append, List.length_take, List.length_drop, List.length_replicate, List.length_cons, List.length_nil, decs_length, List.length_map]; omega))) ?_; refine W_norm rfl ?_)
              )
            )
            | (refine K_code ?_; first
              | refine W_seq ?_
              | refine W_ops ?_
              | refine W_cond_f rfl ?_
              | refine W_exit ?_
            )
            | refine seqK_n ?_
            | refine seqK_x ?_
            | refine blockK_n ?_
            | refine blockK_e ?_
            | refine invK_x ?_
            | refine invK_n ?_)
          refine ⟨_, ?_, _, ⟨i + 1, rfl, rfl, ?_, ?_⟩, EnvB.of rfl⟩
          · omega
          · omega
          · rw [hrp, hrb]
            exact ((hs.drop 0).drop 1).front 1 rfl
      · obtain ⟨id, kd, rfl, rfl, hkd⟩ := ha2.pos (by simp)
        refine W_loopB [2, 9, 58, 59, 60, 61, 62, 63, 64, 65, 66, 67, 68, 69, 70, 71, 72, 73, 74, 75, 76, 77, 78, 79, 80, 81, 82, 83, 84, 85] [0, 1, 2, 3, 4, 5, 6, 7, 8, 9, 10, 11, 12, 13, 14, 15, 16, 17, 18, 19, 20, 21, 22, 23, 24, 25, 26, 27, 28, 29, 30, 31, 32, 33, 34, 35, 36, 37, 38, 39, 40, 41, 42, 43, 44, 45, 46, 47, 48, 49, 50, 51, 52, 53, 54, 55, 56, 57, 58, 59, 60, 61, 62, 63, 64, 65, 66, 67, 68, 69, 70, 71, 72, 73, 74, 75, 76, 77, 78, 79, 80, 81, 82, 83, 84, 85, 86, 87, 88, 89, 90, 91, 92, 93, 94, 95, 96, 97, 98, 99, 100, 101, 102, 103, 104, 105, 106, 107, 108, 109, 110, 111, 112, 113, 114, 115, 116, 117, 118, 119, 120, 121, 122] (fun n' sl h' => ∃ (k : Nat), sl = [(9, .sc (.int .i64 (k : Int)))] ∧ n' = 2 - k ∧ k ≤ 2 ∧ Sep (Now h) [[(id, .cells 21 kd (List.flatMap (intEl .i32).enc [a]))], [(b2, .cells 31 .own [.str (byteB (runB [] (s.take i)).1 (s.getD i 0)).1])], [(al, .cells 32 .own [.int .i32 ([a].getD 0 0), .int .i32 ([a].getD 1 0)])], [(b1, .cells 28 .own (encD (byteL (runP dec0 (s.take i)).1 ((s.getD i 0).toNat : Int)).1))]] h') ?_ ?_
        · refine ⟨_, _, ⟨0, rfl, rfl, Nat.zero_le _, hs⟩, EnvB.of rfl⟩
        clear hs
        rintro _ _ us _ h5 ⟨k, rfl, rfl, hk, hs⟩ he
        refine W_spell he rfl ?_
        clear he
        unfold m4_l15
        obtain rfl | rfl | rfl : k = 0 ∨ k = 1 ∨ k = 2 := by omega
        · repeat' (first
            | (refine K_ops ?_; first
              | refine W_fastB rfl ?_
              | refine W_nil ?_
              | (refine K_guard ?_; first
                | refine W_guard_on rfl ?_
                | refine W_guard_off rfl rfl (W_norm rfl ?_)
                | refine W_guard_u rfl (W_norm rfl ?_)
                | (refine W_guardF rfl (fun hc => ?_) (fun hc => ?_) <;> (try rw [hc]) <;> (try simp only [decide_eq_true_eq, decide_eq_false_iff_not, beq_iff_eq, beq_eq_false_iff_ne, bne_iff_ne, bne_eq_false_iff_eq, Bool.not_eq_true', Bool.not_eq_false', Int.not_lt, Int.not_le, ne_eq, reduceCtorEq, not_true_eq_false, not_false_eq_true, Decidable.not_not] at hc) <;> (try (exfalso; omega)) <;> (try refine W_norm rfl ?_))
              )
              | (refine K_bin ?_; first
                | (refine W_add rfl rfl (IntWalk.i64_in _ (by first | omega | (simp only [List.length_set, List.length_append, List.length_take, List.length_drop, List.length_replicate, List.length_cons, List.length_nil, decs_length, List.length_map]; omega))) ?_; refine W_norm rfl ?_)
              )
              | (refine K_pick ?_; first
                | refine W_pick_t rfl rfl (W_norm rfl ?_)
                | refine W_pick_f rfl rfl (W_norm rfl ?_)
              )
              | (refine K_index ?_; first
                | (refine W_indexO rfl rfl ⟨(by first | omega | (simp only [List.length_set, List.length_append, List.length_take, List.length_drop, List.length_replicate, List.length_cons, List.length_nil, decs_length, List.length_map]; omega)), (by first | omega | (simp only [List.length_set, List.length_append, List.length_take, List.length_drop, List.length_replicate, List.length_cons, List.length_nil, decs_length, List.length_map]; omega))⟩ ?_; refine W_norm rfl ?_)
              )
              | (refine K_load ?_; first
                | (refine W_loadO hs 0 rfl rfl rfl (by first | omega | (simp only [List.length_set, List.length_append, List.length_take, List.length_drop, List.length_replicate, List.length_cons, List.length_nil, decs_length, List.length_map]; omega)) rfl ?_; refine W_norm rfl ?_)
                | (refine W_loadC hs 2 rfl rfl rfl ?_; refine W_norm rfl ?_)
              )
              | refine W_indexArr rfl rfl ⟨by omega, by omega⟩ (W_norm rfl ?_)
            )
            | (refine K_code ?_; first
              | refine W_seq ?_
              | refine W_ops ?_
              | refine W_cond_t rfl ?_
              | refine W_cond_f rfl ?_
              | refine W_skip ?_
              | refine W_ret ?_
              | refine W_block ?_
              | refine W_draw rfl ?_
            )
            | refine seqK_n ?_
            | refine seqK_r ?_
            | refine blockK_r ?_
            | refine blockK_n ?_
            | refine invK_r ?_
            | refine invK_n ?_
            | (refine fnK_r rfl ?_; try dsimp only [gd_z, gd_s]))
          all_goals first | exact absurd rfl hc | (refine ⟨_, ?_, _, ⟨1, rfl, rfl, ?_, hs⟩, EnvB.of rfl⟩ <;> omega)
        · repeat' (first
            | (refine K_ops ?_; first
              | refine W_fastB rfl ?_
              | refine W_nil ?_
              | (refine K_guard ?_; first
                | refine W_guard_on rfl ?_
                | refine W_guard_off rfl rfl (W_norm rfl ?_)
              )
              | (refine K_bin ?_; first
                | (refine W_add rfl rfl (IntWalk.i64_in _ (by first | omega | (simp only [List.length_set, List.length_append, List.length_take, List.length_drop, List.length_replicate, List.length_cons, List.length_nil, decs_length, List.length_map]; omega))) ?_; refine W_norm rfl ?_)
              )
              | (refine K_pick ?_; first
                | refine W_pick_t rfl rfl (W_norm rfl ?_)
                | refine W_pick_f rfl rfl (W_norm rfl ?_)
              )
              | (refine K_load ?_; first
                | (refine W_loadC hs 2 rfl rfl rfl ?_; refine W_norm rfl ?_)
              )
              | refine W_indexArr rfl rfl ⟨by omega, by omega⟩ (W_norm rfl ?_)
            )
            | (refine K_code ?_; first
              | refine W_seq ?_
              | refine W_ops ?_
              | refine W_cond_t rfl ?_
              | refine W_cond_f rfl ?_
              | refine W_skip ?_
              | refine W_block ?_
              | refine W_draw rfl ?_
            )
            | refine seqK_n ?_
            | refine blockK_n ?_
            | refine invK_n ?_)
          all_goals first | exact absurd rfl hc | (refine ⟨_, ?_, _, ⟨2, rfl, rfl, ?_, hs⟩, EnvB.of rfl⟩ <;> omega)
        · repeat' (first
            | (refine K_ops ?_; first
              | refine W_fastB rfl ?_
              | refine W_nil ?_
              | (refine K_bin ?_; first
                | (refine W_add rfl rfl (IntWalk.i64_in _ (by first | omega | (simp only [List.length_set, List.length_append, List.length_take, List.length_drop, List.length_replicate, List.length_cons, List.length_nil, decs_length, List.length_map]; omega))) ?_; refine W_norm rfl ?_)
              )
            )
            | (refine K_code ?_; first
              | refine W_seq ?_
              | refine W_ops ?_
              | refine W_cond_f rfl ?_
              | refine W_exit ?_
            )
            | refine seqK_n ?_
            | refine seqK_x ?_
            | refine blockK_n ?_
            | refine blockK_e ?_
            | refine invK_x ?_
            | refine invK_n ?_)
          refine ⟨_, ?_, _, ⟨i + 1, rfl, rfl, ?_, ?_⟩, EnvB.of rfl⟩
          · omega
          · omega
          · rw [hrp, hrb]
            exact ((hs.drop 0).drop 1).front 1 rfl
      · obtain ⟨id, kd, rfl, rfl, hkd⟩ := ha2.pos (by simp)
        refine W_loopB [2, 9, 58, 59, 60, 61, 62, 63, 64, 65, 66, 67, 68, 69, 70, 71, 72, 73, 74, 75, 76, 77, 78, 79, 80, 81, 82, 83, 84, 85] [0, 1, 2, 3, 4, 5, 6, 7, 8, 9, 10, 11, 12, 13, 14, 15, 16, 17, 18, 19, 20, 21, 22, 23, 24, 25, 26, 27, 28, 29, 30, 31, 32, 33, 34, 35, 36, 37, 38, 39, 40, 41, 42, 43, 44, 45, 46, 47, 48, 49, 50, 51, 52, 53, 54, 55, 56, 57, 58, 59, 60, 61, 62, 63, 64, 65, 66, 67, 68, 69, 70, 71, 72, 73, 74, 75, 76, 77, 78, 79, 80, 81, 82, 83, 84, 85, 86, 87, 88, 89, 90, 91, 92, 93, 94, 95, 96, 97, 98, 99, 100, 101, 102, 103, 104, 105, 106, 107, 108, 109, 110, 111, 112, 113, 114, 115, 116, 117, 118, 119, 120, 121, 122] (fun n' sl h' => ∃ (k : Nat), sl = [(9, .sc (.int .i64 (k : Int)))] ∧ n' = 2 - k ∧ k ≤ 2 ∧ Sep (Now h) [[(id, .cells 21 kd (List.flatMap (intEl .i32).enc [a, b]))], [(b2, .cells 31 .own [.str (byteB (runB [] (s.take i)).1 (s.getD i 0)).1])], [(al, .cells 32 .own [.int .i32 ([a, b].getD 0 0), .int .i32 ([a, b].getD 1 0)])], [(b1, .cells 28 .own (encD (byteL (runP dec0 (s.take i)).1 ((s.getD i 0).toNat : Int)).1))]] h') ?_ ?_
        · refine ⟨_, _, ⟨0, rfl, rfl, Nat.zero_le _, hs⟩, EnvB.of rfl⟩
        clear hs
        rintro _ _ us _ h5 ⟨k, rfl, rfl, hk, hs⟩ he
        refine W_spell he rfl ?_
        clear he
        unfold m4_l15
        obtain rfl | rfl | rfl : k = 0 ∨ k = 1 ∨ k = 2 := by omega
        · repeat' (first
            | (refine K_ops ?_; first
              | refine W_fastB rfl ?_
              | refine W_nil ?_
              | (refine K_guard ?_; first
                | refine W_guard_on rfl ?_
                | refine W_guard_off rfl rfl (W_norm rfl ?_)
                | refine W_guard_u rfl (W_norm rfl ?_)
                | (refine W_guardF rfl (fun hc => ?_) (fun hc => ?_) <;> (try rw [hc]) <;> (try simp only [decide_eq_true_eq, decide_eq_false_iff_not, beq_iff_eq, beq_eq_false_iff_ne, bne_iff_ne, bne_eq_false_iff_eq, Bool.not_eq_true', Bool.not_eq_false', Int.not_lt, Int.not_le, ne_eq, reduceCtorEq, not_true_eq_false, not_false_eq_true, Decidable.not_not] at hc) <;> (try (exfalso; omega)) <;> (try refine W_norm rfl ?_))
              )
              | (refine K_bin ?_; first
                | (refine W_add rfl rfl (IntWalk.i64_in _ (by first | omega | (simp only [List.length_set, List.length_append, List.length_take, List.length_drop, List.length_replicate, List.length_cons, List.length_nil, decs_length, List.length_map]; omega))) ?_; refine W_norm rfl ?_)
              )
              | (refine K_pick ?_; first
                | refine W_pick_t rfl rfl (W_norm rfl ?_)
                | refine W_pick_f rfl rfl (W_norm rfl ?_)
              )
              | (refine K_index ?_; first
                | (refine W_indexO rfl rfl ⟨(by first | omega | (simp only [List.length_set, List.length_append, List.length_take, List.length_drop, List.length_replicate, List.length_cons, List.length_nil, decs_length, List.length_map]; omega)), (by first | omega | (simp only [List.length_set, List.length_append, List.length_take, List.length_drop, List.length_replicate, List.length_cons, List.length_nil, decs_length, List.length_map]; omega))⟩ ?_; refine W_norm rfl ?_)
              )
              | (refine K_load ?_; first
                | (refine W_loadO hs 0 rfl rfl rfl (by first | omega | (simp only [List.length_set, List.length_append, List.length_take, List.length_drop, List.length_replicate, List.length_cons, List.length_nil, decs_length, List.length_map]; omega)) rfl ?_; refine W_norm rfl ?_)
                | (refine W_loadC hs 2 rfl rfl rfl ?_; refine W_norm rfl ?_)
              )
              | refine W_indexArr rfl rfl ⟨by omega, by omega⟩ (W_norm rfl ?_)
            )
            | (refine K_code ?_; first
              | refine W_seq ?_
              | refine W_ops ?_
              | refine W_cond_t rfl ?_
              | refine W_cond_f rfl ?_
              | refine W_skip ?_
              | refine W_ret ?_
              | refine W_block ?_
              | refine W_draw rfl ?_
            )
            | refine seqK_n ?_
            | refine seqK_r ?_
            | refine blockK_r ?_
            | refine blockK_n ?_
            | refine invK_r ?_
            | refine invK_n ?_
            | (refine fnK_r rfl ?_; try dsimp only [gd_z, gd_s]))
          all_goals first | exact absurd rfl hc | (refine ⟨_, ?_, _, ⟨1, rfl, rfl, ?_, hs⟩, EnvB.of rfl⟩ <;> omega)
        · repeat' (first
            | (refine K_ops ?_; first
              | refine W_fastB rfl ?_
              | refine W_nil ?_
              | (refine K_guard ?_; first
                | refine W_guard_on rfl ?_
                | refine W_guard_off rfl rfl (W_norm rfl ?_)
                | refine W_guard_u rfl (W_norm rfl ?_)
                | (refine W_guardF rfl (fun hc => ?_) (fun hc => ?_) <;> (try rw [hc]) <;> (try simp only [decide_eq_true_eq, decide_eq_false_iff_not, beq_iff_eq, beq_eq_false_iff_ne, bne_iff_ne, bne_eq_false_iff_eq, Bool.not_eq_true', Bool.not_eq_false', Int.not_lt, Int.not_le, ne_eq, reduceCtorEq, not_true_eq_false, not_false_eq_true, Decidable.not_not] at hc) <;> (try (exfalso; omega)) <;> (try refine W_norm rfl ?_))
              )
              | (refine K_bin ?_; first
                | (refine W_add rfl rfl (IntWalk.i64_in _ (by first | omega | (simp only [List.length_set, List.length_append, List.length_take, List.length_drop, List.length_replicate, List.length_cons, List.length_nil, decs_length, List.length_map]; omega))) ?_; refine W_norm rfl ?_)
              )
              | (refine K_pick ?_; first
                | refine W_pick_t rfl rfl (W_norm rfl ?_)
                | refine W_pick_f rfl rfl (W_norm rfl ?_)
              )
              | (refine K_index ?_; first
                | (refine W_indexO rfl rfl ⟨(by first | omega | (simp only [List.length_set, List.length_append, List.length_take, List.length_drop, List.length_replicate, List.length_cons, List.length_nil, decs_length, List.length_map]; omega)), (by first | omega | (simp only [List.length_set, List.length_append, List.length_take, List.length_drop, List.length_replicate, List.length_cons, List.length_nil, decs_length, List.length_map]; omega))⟩ ?_; refine W_norm rfl ?_)
              )
              | (refine K_load ?_; first
                | (refine W_loadO hs 0 rfl rfl rfl (by first | omega | (simp only [List.length_set, List.length_append, List.length_take, List.length_drop, List.length_replicate, List.length_cons, List.length_nil, decs_length, List.length_map]; omega)) rfl ?_; refine W_norm rfl ?_)
                | (refine W_loadC hs 2 rfl rfl rfl ?_; refine W_norm rfl ?_)
              )
              | refine W_indexArr rfl rfl ⟨by omega, by omega⟩ (W_norm rfl ?_)
            )
            | (refine K_code ?_; first
              | refine W_seq ?_
              | refine W_ops ?_
              | refine W_cond_t rfl ?_
              | refine W_cond_f rfl ?_
              | refine W_skip ?_
              | refine W_ret ?_
              | refine W_block ?_
              | refine W_draw rfl ?_
            )
            | refine seqK_n ?_
            | refine seqK_r ?_
            | refine blockK_r ?_
            | refine blockK_n ?_
            | refine invK_r ?_
            | refine invK_n ?_
            | (refine fnK_r rfl ?_; try dsimp only [gd_z, gd_s]))
          all_goals first | exact absurd rfl hc | (refine ⟨_, ?_, _, ⟨2, rfl, rfl, ?_, hs⟩, EnvB.of rfl⟩ <;> omega)
        · repeat' (first
            | (refine K_ops ?_; first
              | refine W_fastB rfl ?_
              | refine W_nil ?_
              | (refine K_bin ?_; first
                | (refine W_add rfl rfl (IntWalk.i64_in _ (by first | omega | (simp only [List.length_set, List.length_append, List.length_take, List.length_drop, List.length_replicate, List.length_cons, List.length_nil, decs_length, List.length_map]; omega))) ?_; refine W_norm rfl ?_)
              )
            )
            | (refine K_code ?_; first
              | refine W_seq ?_
              | refine W_ops ?_
              | refine W_cond_f rfl ?_
              | refine W_exit ?_
            )
            | refine seqK_n ?_
            | refine seqK_x ?_
            | refine blockK_n ?_
            | refine blockK_e ?_
            | refine invK_x ?_
            | refine invK_n ?_)
          refine ⟨_, ?_, _, ⟨i + 1, rfl, rfl, ?_, ?_⟩, EnvB.of rfl⟩
          · omega
          · omega
          · rw [hrp, hrb]
            exact ((hs.drop 0).drop 1).front 1 rfl
      · simp only [List.length_cons] at hol; omega
    · obtain rfl : i = s.length := by omega
      rw [List.take_length] at hs hsh
      have hl2 : s.length ≤ 20000 := by omega
      repeat' (first
        | (refine K_ops ?_; first
          | refine W_fastB rfl ?_
          | refine W_nil ?_
        )
        | (refine K_code ?_; first
          | (exact w4_end hs hl2 ⟨rfl, rfl, rfl, rfl, trivial⟩)
          | refine W_seq ?_
          | refine W_ops ?_
          | (refine W_cond rfl (fun hc => ?_) (fun hc => ?_) <;> (try rw [hc]) <;> (try simp only [decide_eq_true_eq, decide_eq_false_iff_not, beq_iff_eq, beq_eq_false_iff_ne, bne_iff_ne, bne_eq_false_iff_eq, Bool.not_eq_true', Bool.not_eq_false', Int.not_lt, Int.not_le, ne_eq, reduceCtorEq, not_true_eq_false, not_false_eq_true, Decidable.not_not] at hc) <;> (try (exfalso; omega)) <;> (try refine W_norm rfl ?_))
          | refine W_exit ?_
        )
        | refine seqK_n ?_
        | refine seqK_x ?_
        | refine blockK_e ?_
        | refine invK_x ?_)
  · repeat' (first
      | (refine K_ops ?_; first
        | refine W_fastB rfl ?_
        | refine W_nil ?_
        | (refine K_call ?_; first
          | (refine W_callsN 9 rfl (w9 _) rfl ?_; rintro _ h ⟨rfl, rfl⟩; refine W_norm rfl ?_)
        )
      )
      | (refine K_code ?_; first
        | refine W_seq ?_
        | refine W_ops ?_
        | refine W_cond_f rfl ?_
        | (refine W_cond rfl (fun hc => ?_) (fun hc => ?_) <;> (try rw [hc]) <;> (try simp only [decide_eq_true_eq, decide_eq_false_iff_not, beq_iff_eq, beq_eq_false_iff_ne, bne_iff_ne, bne_eq_false_iff_eq, Bool.not_eq_true', Bool.not_eq_false', Int.not_lt, Int.not_le, ne_eq, reduceCtorEq, not_true_eq_false, not_false_eq_true, Decidable.not_not] at hc) <;> (try (exfalso; omega)) <;> (try refine W_norm rfl ?_))
        | refine W_skip ?_
        | refine W_ret ?_
      )
      | refine seqK_n ?_
      | refine seqK_r ?_
      | (refine fnK_r rfl ?_; try dsimp only [gd_z, gd_s]))
    exact ⟨_, rfl, rfl, hs⟩
end Go.Proofs.Ytcgfcnbcfcllpaa
