import Derived.Test.YtggkbkbhegcbkaaDoorJxM18D
/- The law GateClip. -/
set_option linter.unusedSimpArgs false
set_option linter.unusedVariables false
set_option maxHeartbeats 1000000
set_option maxRecDepth 100000
namespace Go.Proofs.YtggkbkbhegcbkaaDoor
open Go Go.Jx

def flowE : El Flow := ⟨3, flowC, fun l => match l with | [.int _ a, .int _ b, .str c] => (a, b, c) | _ => (0, 0, []), (0, 0, []), fun _ => rfl, by decide, fun _ => rfl⟩
theorem flowE_fits (x : Flow) : fits [.int .i64, .int .i64, .str] (flowE.enc x) = true := rfl
theorem w8 (h : Heap) : Wc DD 8 [] h fun v h' => v = .sc (.bool true) ∧ h' = h := W_known rfl
theorem w14 {tx : List UInt8} {h : Heap} (ht : tx.length ≤ 15000) : Wc DD 14 [.sc (.str tx)] h fun v h' => v = .agg (flowC (sysL tx)) ∧ Sep (Now h) [] h' := by
  have hs := Sep.entry h
  have hc : classL 5 0 [] [] tx = sysL tx := by
    unfold classL
    rw [if_neg (by decide), if_neg (by omega), if_pos rfl]
  have hn : NsR (intEl .i64) (Now h) .nils [] := ⟨SlR.nil _, by simp⟩
  refine W_enter d14 ?_
  show W _ (.code m14_code [.sc (.str tx), undefA, undefA, undefA, undefA, undefA] _) _
  unfold m14_code
  repeat' (first
    | (refine K_ops ?_; first
      | refine W_fastB rfl ?_
      | refine W_nil ?_
      | (refine K_call ?_; first
        | (refine W_callsN 9 rfl (w9 (k := 5) (r := 0) (f := 0) (m := []) (tx := tx) (P := []) (hn.now hs) ⟨by simp, by simp⟩ (by simp) (fun _ => ht)) rfl ?_; rintro _ h ⟨rfl, t⟩; rw [show classL 5 0 [] (List.map Prod.snd ([] : List (SV × List Int))) tx = sysL tx from hc]; unfold flowC; replace hs := hs.call t; try simp only [cell_back, attr_back, List.set_cons_zero, List.set_cons_succ, List.eraseIdx_cons_succ, List.eraseIdx_zero, List.tail_cons, List.nil_append, List.cons_append] at hs; refine W_norm rfl ?_)
      )
      | (refine K_store ?_; first
        | (refine W_storeC hs 0 rfl rfl rfl rfl (by first | decide | assumption) rfl rfl ?_; clear hs; intro _ hs; try simp only [cell_back, attr_back, List.set_cons_zero, List.set_cons_succ, List.eraseIdx_cons_succ, List.eraseIdx_zero, List.tail_cons, List.nil_append, List.cons_append] at hs; refine W_norm rfl ?_)
      )
      | (refine W_allocS hs ?_; clear hs; intro al _ hs; try simp only [cell_back, attr_back, List.set_cons_zero, List.set_cons_succ, List.eraseIdx_cons_succ, List.eraseIdx_zero, List.tail_cons, List.nil_append, List.cons_append] at hs; refine W_norm rfl ?_)
      | (refine W_buildN rfl ?_; refine W_norm rfl ?_)
    )
    | (refine K_code ?_; first
      | refine W_seq ?_
      | refine W_ops ?_
      | refine W_ret ?_
    )
    | refine seqK_n ?_
    | (refine fnK_cellS hs 0 rfl rfl rfl rfl ?_))
  exact ⟨_, rfl, rfl, hs.none⟩

/-! ## plain -/
theorem cut_at (a b : List UInt8) (c : UInt8) (h : c ∉ a) : cutL (a ++ c :: b) c = (a, b, true) := by
  have h1 : indexByteA (a ++ c :: b) c.toNat = a.length := by
    rcases idxB_b (a ++ c :: b) c with ⟨_, h4⟩ | ⟨i, h3, h4, h5, h6⟩
    · exact absurd (by simp) h4
    · rcases Nat.lt_trichotomy i a.length with hl | rfl | hl
      · exfalso
        apply h
        rw [List.getD_eq_getElem?_getD, List.getElem?_append_left hl, List.getElem?_eq_getElem hl] at h5
        rw [← h5]; exact List.getElem_mem hl
      · exact h3
      · exfalso
        apply h6
        rw [List.mem_iff_getElem?]
        exact ⟨a.length, by rw [List.getElem?_take_of_lt hl]; simp⟩
  unfold cutL
  rw [h1, if_neg (by omega)]
  simp
theorem encG_no : ∀ (b : List UInt8), (encG b).length % 4 = 0 := fun b => by rw [encG_len]; omega
theorem dec_enc (b : List UInt8) : decL (encG b) = some b := by unfold decL; rw [if_neg (by rw [encG_no]; simp)]; exact dec_enc64 b
/-- What a text to the clipboard is. -/
theorem sys_clip (sel b : List UInt8) (h : (59 : UInt8) ∉ sel) : sysL ([53, 50, 59] ++ sel ++ [59] ++ encG b) = if b.length ≤ 4096 then (4, 0, b) else (7, 0, []) := by
  have e1 : [53, 50, 59] ++ sel ++ [59] ++ encG b = [53, 50] ++ 59 :: (sel ++ 59 :: encG b) := by simp
  have c1 : cutL ([53, 50, 59] ++ sel ++ [59] ++ encG b) 59 = ([53, 50], sel ++ 59 :: encG b, true) := by rw [e1]; exact cut_at _ _ _ (by decide)
  have c2 := cut_at sel (encG b) 59 h
  have hq : encG b ≠ [63] := by intro hh; have := encG_no b; rw [hh] at this; simp at this
  unfold sysL
  rw [c1]
  simp only
  rw [c2]
  simp only [dec_enc, hq, and_false, if_false, Option.isSome_some, Option.getD_some, true_and]
  simp
/-- One group of letters. -/
def grp3 (b : List UInt8) (i : Nat) : List UInt8 := encG ((b.drop i).take 3)
theorem encG_step (b : List UInt8) : encG b = encG (b.take 3) ++ encG (b.drop 3) := by
  match b with
  | [] => rfl
  | [_] => simp [encG]
  | [_, _] => simp [encG]
  | _ :: _ :: _ :: r => simp [encG]
theorem encG_take {b : List UInt8} {i : Nat} (h3 : i % 3 = 0) (hi : i < b.length) : encG (b.take (i + 3)) = encG (b.take i) ++ grp3 b i := by
  have key : ∀ (n : Nat) (b : List UInt8), n * 3 < b.length → encG (b.take (n * 3 + 3)) = encG (b.take (n * 3)) ++ encG ((b.drop (n * 3)).take 3) := by
    intro n
    induction n with
    | zero => intro b _; simp [encG]
    | succ n ih =>
      intro b hb
      have h1 := ih (b.drop 3) (by rw [List.length_drop]; omega)
      rw [encG_step (b.take ((n + 1) * 3 + 3)), encG_step (b.take ((n + 1) * 3))]
      rw [List.take_take, List.take_take, Nat.min_eq_left (by omega), Nat.min_eq_left (by omega), List.drop_take, List.drop_take]
      rw [show (n + 1) * 3 + 3 - 3 = n * 3 + 3 by omega, show (n + 1) * 3 - 3 = n * 3 by omega, h1, List.drop_drop, show 3 + n * 3 = (n + 1) * 3 by omega, List.append_assoc]
  obtain ⟨n, rfl⟩ : ∃ n, i = n * 3 := ⟨i / 3, by omega⟩
  exact key n b hi
def bq (b : List UInt8) (i j : Nat) : Int := if i + j < b.length then ((b.getD (i + j) 0).toNat : Int) else 0
theorem bq_range (b : List UInt8) (i j : Nat) : 0 ≤ bq b i j ∧ bq b i j < 256 := by
  unfold bq
  split
  · have := (b.getD (i + j) 0).toNat_lt; omega
  · omega
def xq (b : List UInt8) (i k : Nat) : Int := [0, bq b i 0, 256 * bq b i 0 + bq b i 1, 256 * (256 * bq b i 0 + bq b i 1) + bq b i 2].getD k 0
theorem sp_congr {x y : Int} (h : x = y) : sp x = sp y := by rw [h]
theorem grp_eq {b : List UInt8} {i : Nat} (hi : i < b.length) : ([sp (xq b i 3 / 262144), sp (xq b i 3 / 4096 % 64), sp (xq b i 3 / 64 % 64), sp (xq b i 3 % 64)].take (min 3 (b.length - i) + 1)) ++ ([61, 61] : List UInt8).take (3 - min 3 (b.length - i)) = grp3 b i := by
  have g0 := b.getD i 0
  unfold grp3
  have hx : xq b i 3 = 256 * (256 * bq b i 0 + bq b i 1) + bq b i 2 := rfl
  have q0 : bq b i 0 = ((b.getD i 0).toNat : Int) := by unfold bq; rw [if_pos (by omega)]; rfl
  have h0 := (b.getD i 0).toNat_lt
  have h1 := (b.getD (i + 1) 0).toNat_lt
  have h2 := (b.getD (i + 2) 0).toNat_lt
  have d0 : b.drop i = b.getD i 0 :: b.drop (i + 1) := by rw [List.drop_eq_getElem_cons hi, List.getD_eq_getElem?_getD, List.getElem?_eq_getElem hi]; rfl
  by_cases l1 : i + 1 < b.length
  · have q1 : bq b i 1 = ((b.getD (i + 1) 0).toNat : Int) := by unfold bq; rw [if_pos l1]
    have d1 : b.drop (i + 1) = b.getD (i + 1) 0 :: b.drop (i + 2) := by rw [List.drop_eq_getElem_cons l1, List.getD_eq_getElem?_getD, List.getElem?_eq_getElem l1]; rfl
    by_cases l2 : i + 2 < b.length
    · have q2 : bq b i 2 = ((b.getD (i + 2) 0).toNat : Int) := by unfold bq; rw [if_pos l2]
      have d2 : b.drop (i + 2) = b.getD (i + 2) 0 :: b.drop (i + 3) := by rw [List.drop_eq_getElem_cons l2, List.getD_eq_getElem?_getD, List.getElem?_eq_getElem l2]; rfl
      rw [show min 3 (b.length - i) = 3 by omega, d0, d1, d2, hx, q0, q1, q2]
      generalize b.getD i 0 = x at *
      generalize b.getD (i + 1) 0 = y at *
      generalize b.getD (i + 2) 0 = z at *
      simp only [List.take_succ_cons, List.take_zero, List.append_nil, encG, Nat.sub_self]
      rw [sp_congr (show (256 * (256 * (x.toNat : Int) + y.toNat) + z.toNat) / 262144 = (x.toNat : Int) / 4 by omega), sp_congr (show (256 * (256 * (x.toNat : Int) + y.toNat) + z.toNat) / 4096 % 64 = (x.toNat : Int) % 4 * 16 + y.toNat / 16 by omega),
        sp_congr (show (256 * (256 * (x.toNat : Int) + y.toNat) + z.toNat) / 64 % 64 = (y.toNat : Int) % 16 * 4 + z.toNat / 64 by omega), sp_congr (show (256 * (256 * (x.toNat : Int) + y.toNat) + z.toNat) % 64 = (z.toNat : Int) % 64 by omega)]
    · have q2 : bq b i 2 = 0 := by unfold bq; rw [if_neg l2]
      have d2 : b.drop (i + 2) = [] := List.drop_of_length_le (by omega)
      rw [show min 3 (b.length - i) = 2 by omega, d0, d1, d2, hx, q0, q1, q2]
      generalize b.getD i 0 = x at *
      generalize b.getD (i + 1) 0 = y at *
      simp only [List.take_succ_cons, List.take_zero, List.take_nil, List.cons_append, List.nil_append, encG, show 3 - 2 = 1 from rfl]
      rw [sp_congr (show (256 * (256 * (x.toNat : Int) + y.toNat) + 0) / 262144 = (x.toNat : Int) / 4 by omega), sp_congr (show (256 * (256 * (x.toNat : Int) + y.toNat) + 0) / 4096 % 64 = (x.toNat : Int) % 4 * 16 + y.toNat / 16 by omega),
        sp_congr (show (256 * (256 * (x.toNat : Int) + y.toNat) + 0) / 64 % 64 = (y.toNat : Int) % 16 * 4 by omega)]
  · have q1 : bq b i 1 = 0 := by unfold bq; rw [if_neg l1]
    have q2 : bq b i 2 = 0 := by unfold bq; rw [if_neg (by omega)]
    have d1 : b.drop (i + 1) = [] := List.drop_of_length_le (by omega)
    rw [show min 3 (b.length - i) = 1 by omega, d0, d1, hx, q0, q1, q2]
    generalize b.getD i 0 = x at *
    simp only [List.take_succ_cons, List.take_zero, List.take_nil, List.cons_append, List.nil_append, encG, show 3 - 1 = 2 from rfl]
    rw [sp_congr (show (256 * (256 * (x.toNat : Int) + 0) + 0) / 262144 = (x.toNat : Int) / 4 by omega), sp_congr (show (256 * (256 * (x.toNat : Int) + 0) + 0) / 4096 % 64 = (x.toNat : Int) % 4 * 16 by omega)]

theorem w4 {b sel : List UInt8} {h0 : Heap} (hbl : b.length ≤ 2 ^ 63 - 1) (hsl : sel.length ≤ 2 ^ 63 - 1) : Wc DD 4 [.sc (.str b), .sc (.str sel)] h0 fun v h' => v = bo true := by
  have hs := Sep.entry h0
  refine W_enter d4 ?_
  show W _ (.code m4_code [.sc (.str b), .sc (.str sel), undefA, undefA, undefA, undefA, undefA, undefA, undefA, undefA, undefA, undefA, undefA, undefA, undefA, undefA, undefA, undefA, undefA, undefA, undefA, undefA, undefA, undefA, undefA, undefA, undefA, undefA, undefA, undefA, undefA, undefA, undefA, undefA, undefA, undefA, undefA, undefA, undefA, undefA, undefA, undefA, undefA, undefA, undefA, undefA, undefA, undefA, undefA, undefA, undefA, undefA, undefA, undefA, undefA, undefA, undefA, undefA, undefA, undefA, undefA, undefA, undefA, undefA, undefA, undefA, undefA, undefA, undefA, undefA, undefA, undefA, undefA, undefA, undefA, undefA, undefA, undefA, undefA, undefA, undefA, undefA, undefA, undefA, undefA, undefA, undefA, undefA, undefA, undefA, undefA, undefA, undefA, undefA, undefA, undefA, undefA, undefA, undefA, undefA, undefA, undefA, undefA, undefA, undefA, undefA, undefA, undefA, undefA, undefA] _) _
  unfold m4_code
  by_cases hg : b.length ≤ 4200 ∧ sel.length ≤ 100 ∧ (59 : UInt8) ∉ sel
  · obtain ⟨g1, g2, g3⟩ := hg
    have hct : decide ((59 : UInt8) ∈ sel) = false := decide_eq_false g3
    repeat' (first
      | (refine K_ops ?_; first
        | refine W_fastB rfl ?_
        | refine W_nil ?_
        | (refine K_guard ?_; first
          | refine W_guard_on rfl ?_
          | (refine W_guardF rfl (fun hc => ?_) (fun hc => ?_) <;> (try rw [hc]) <;> (try simp only [decide_eq_true_eq, decide_eq_false_iff_not, beq_iff_eq, beq_eq_false_iff_ne, bne_iff_ne, bne_eq_false_iff_eq, Bool.not_eq_true', Bool.not_eq_false', Int.not_lt, Int.not_le, ne_eq, reduceCtorEq, not_true_eq_false, not_false_eq_true, Decidable.not_not] at hc) <;> (try (exfalso; omega)) <;> (try refine W_norm rfl ?_))
        )
        | (refine K_call ?_; first
          | (refine W_callsN 8 rfl (w8 _) rfl ?_; rintro _ h ⟨rfl, rfl⟩; refine W_norm rfl ?_)
          | (refine W_callsN 12 rfl (w12 sel 59 _) rfl ?_; rintro _ h ⟨rfl, rfl⟩; rw [hct]; refine W_norm rfl ?_)
        )
        | (refine K_pick ?_; first
          | refine W_pick_f rfl rfl (W_norm rfl ?_)
        )
      )
      | (refine K_code ?_; first
        | refine W_seq ?_
        | refine W_ops ?_
        | refine W_cond_f rfl ?_
        | refine W_skip ?_
        | refine W_block ?_
      )
      | refine seqK_n ?_)
    refine W_loopB [5, 6, 7, 8, 9, 10, 28, 29, 30, 31, 32, 33, 34, 35, 36, 37, 38, 39, 40, 41, 42, 43, 44, 45, 46, 47, 48, 49, 50, 51, 52, 53, 54, 55, 56, 57, 58, 59, 60, 61, 62, 63, 64, 65, 66, 67, 68, 69, 70, 71, 72, 73, 74, 75, 76, 77, 78, 79, 80, 81] [0, 1, 2, 3, 4, 5, 6, 7, 8, 9, 10, 11, 12, 13, 14, 15, 16, 17, 18, 19, 20, 21, 22, 23, 24, 25, 26, 27, 28, 29, 30, 31, 32, 33, 34, 35, 36, 37, 38, 39, 40, 41, 42, 43, 44, 45, 46, 47, 48, 49, 50, 51, 52, 53, 54, 55, 56, 57, 58, 59, 60, 61, 62, 63, 64, 65, 66, 67, 68, 69, 70, 71, 72, 73, 74, 75, 76, 77, 78, 79, 80, 81, 82, 83, 84, 85, 86, 87, 88, 89, 90, 91, 92, 93, 94, 95, 96, 97, 98, 99, 100, 101, 102, 103, 104, 105, 106, 107, 108, 109] (fun n' sl h' => ∃ (i : Nat), sl = [(5, .sc (.str (encG (b.take i)))), (6, i64 (i : Int))] ∧ n' = b.length + 3 - i ∧ i ≤ b.length + 2 ∧ i % 3 = 0 ∧ Sep (Now h) [] h') ?_ ?_
    · refine ⟨_, _, ⟨0, rfl, rfl, by omega, rfl, hs⟩, EnvB.of rfl⟩
    clear hs
    rintro _ _ us _ h2 ⟨i, rfl, rfl, hi, hi3, hs⟩ he
    refine W_spell he rfl ?_
    clear he
    unfold m4_l7
    by_cases hlt : i < b.length
    · repeat' (first
        | (refine K_ops ?_; first
          | refine W_fastB rfl ?_
          | refine W_nil ?_
        )
        | (refine K_code ?_; first
          | refine W_seq ?_
          | refine W_ops ?_
          | (refine W_cond rfl (fun hc => ?_) (fun hc => ?_) <;> (try rw [hc]) <;> (try simp only [decide_eq_true_eq, decide_eq_false_iff_not, beq_iff_eq, beq_eq_false_iff_ne, bne_iff_ne, bne_eq_false_iff_eq, Bool.not_eq_true', Bool.not_eq_false', Int.not_lt, Int.not_le, ne_eq, reduceCtorEq, not_true_eq_false, not_false_eq_true, Decidable.not_not] at hc) <;> (try (exfalso; omega)) <;> (try refine W_norm rfl ?_))
          | refine W_skip ?_
          | refine W_block ?_
        )
        | refine seqK_n ?_)
      refine W_loopB [7, 8, 9, 34, 35, 36, 37, 38, 39, 40, 41, 42, 43, 44, 45, 46, 47, 48, 49, 50, 51, 52, 53, 54, 55] [0, 1, 2, 3, 4, 5, 6, 7, 8, 9, 10, 11, 12, 13, 14, 15, 16, 17, 18, 19, 20, 21, 22, 23, 24, 25, 26, 27, 28, 29, 30, 31, 32, 33, 34, 35, 36, 37, 38, 39, 40, 41, 42, 43, 44, 45, 46, 47, 48, 49, 50, 51, 52, 53, 54, 55, 56, 57, 58, 59, 60, 61, 62, 63, 64, 65, 66, 67, 68, 69, 70, 71, 72, 73, 74, 75, 76, 77, 78, 79, 80, 81, 82, 83, 84, 85, 86, 87, 88, 89, 90, 91, 92, 93, 94, 95, 96, 97, 98, 99, 100, 101, 102, 103, 104, 105, 106, 107, 108, 109] (fun n' sl h' => ∃ (k : Nat), sl = [(7, i64 (xq b i k)), (8, i64 ((min k (b.length - i) : Nat) : Int)), (9, i64 (k : Int))] ∧ n' = 3 - k ∧ k ≤ 3 ∧ Sep (Now h) [] h') ?_ ?_
      · refine ⟨_, _, ⟨0, rfl, rfl, by omega, hs⟩, EnvB.of rfl⟩
      clear hs
      rintro _ _ us2 _ h3 ⟨k, rfl, rfl, hk, hs⟩ he
      refine W_spell he rfl ?_
      clear he
      unfold m4_l11
      have b0 := bq_range b i 0
      have b1 := bq_range b i 1
      have b2 := bq_range b i 2
      by_cases hk3 : k < 3
      · have ek : ((i : Int) + (k : Int)).toNat = i + k := by omega
        have hxr : 0 ≤ xq b i k ∧ xq b i k < 16777216 := by
          obtain rfl | rfl | rfl : k = 0 ∨ k = 1 ∨ k = 2 := by omega
          · show 0 ≤ (0 : Int) ∧ (0 : Int) < 16777216; omega
          · show 0 ≤ bq b i 0 ∧ bq b i 0 < 16777216; omega
          · show 0 ≤ 256 * bq b i 0 + bq b i 1 ∧ 256 * bq b i 0 + bq b i 1 < 16777216; omega
        have hx1 : xq b i (k + 1) = 256 * xq b i k + bq b i k := by
          obtain rfl | rfl | rfl : k = 0 ∨ k = 1 ∨ k = 2 := by omega
          · show bq b i 0 = 256 * 0 + bq b i 0; omega
          · rfl
          · rfl
        by_cases hin : i + k < b.length
        · have hbk : bq b i k = ((b.getD (i + k) 0).toNat : Int) := by unfold bq; rw [if_pos hin]
          have hbr := (b.getD ((i : Int) + (k : Int)).toNat 0).toNat_lt
          repeat' (first
            | (refine K_ops ?_; first
              | refine W_fastB rfl ?_
              | refine W_nil ?_
              | (refine K_bin ?_; first
                | (refine W_add rfl rfl (IntWalk.i64_in _ (by first | omega | (simp only [List.length_set, List.length_append, List.length_take, List.length_drop, List.length_replicate, List.length_cons, List.length_nil, decs_length, List.length_map]; omega))) ?_; refine W_norm rfl ?_)
                | (refine W_mul rfl rfl (IntWalk.i64_in _ (by first | omega | (simp only [List.length_set, List.length_append, List.length_take, List.length_drop, List.length_replicate, List.length_cons, List.length_nil, decs_length, List.length_map]; omega))) ?_; refine W_norm rfl ?_)
              )
              | (refine W_convint rfl (IntWalk.i64_in _ (by omega)) ?_; refine W_norm rfl ?_)
              | (refine W_idxStr rfl rfl ⟨(by first | omega | (simp only [List.length_set, List.length_append, List.length_take, List.length_drop, List.length_replicate, List.length_cons, List.length_nil, decs_length, List.length_map]; omega)), (by first | omega | (simp only [List.length_set, List.length_append, List.length_take, List.length_drop, List.length_replicate, List.length_cons, List.length_nil, decs_length, List.length_map]; omega))⟩ ?_; refine W_norm rfl ?_)
            )
            | (refine K_code ?_; first
              | refine W_seq ?_
              | refine W_ops ?_
              | (refine W_cond rfl (fun hc => ?_) (fun hc => ?_) <;> (try rw [hc]) <;> (try simp only [decide_eq_true_eq, decide_eq_false_iff_not, beq_iff_eq, beq_eq_false_iff_ne, bne_iff_ne, bne_eq_false_iff_eq, Bool.not_eq_true', Bool.not_eq_false', Int.not_lt, Int.not_le, ne_eq, reduceCtorEq, not_true_eq_false, not_false_eq_true, Decidable.not_not] at hc) <;> (try (exfalso; omega)) <;> (try refine W_norm rfl ?_))
              | refine W_skip ?_
              | refine W_block ?_
            )
            | refine seqK_n ?_
            | refine blockK_n ?_
            | refine invK_n ?_)
          have hge2 : ((b.getD ((i : Int) + (k : Int)).toNat 0).toNat : Int) = bq b i k := by rw [ek, hbk]
          rw [hge2, ← hx1]
          have hm : ((min k (b.length - i) : Nat) : Int) + 1 = ((min (k + 1) (b.length - i) : Nat) : Int) := by omega
          rw [hm]
          refine ⟨_, ?_, _, ⟨k + 1, rfl, rfl, ?_, hs⟩, EnvB.of rfl⟩ <;> omega
        · have hbk : bq b i k = 0 := by unfold bq; rw [if_neg hin]
          repeat' (first
            | (refine K_ops ?_; first
              | refine W_fastB rfl ?_
              | refine W_nil ?_
              | (refine K_bin ?_; first
                | (refine W_add rfl rfl (IntWalk.i64_in _ (by first | omega | (simp only [List.length_set, List.length_append, List.length_take, List.length_drop, List.length_replicate, List.length_cons, List.length_nil, decs_length, List.length_map]; omega))) ?_; refine W_norm rfl ?_)
                | (refine W_mul rfl rfl (IntWalk.i64_in _ (by first | omega | (simp only [List.length_set, List.length_append, List.length_take, List.length_drop, List.length_replicate, List.length_cons, List.length_nil, decs_length, List.length_map]; omega))) ?_; refine W_norm rfl ?_)
              )
            )
            | (refine K_code ?_; first
              | refine W_seq ?_
              | refine W_ops ?_
              | (refine W_cond rfl (fun hc => ?_) (fun hc => ?_) <;> (try rw [hc]) <;> (try simp only [decide_eq_true_eq, decide_eq_false_iff_not, beq_iff_eq, beq_eq_false_iff_ne, bne_iff_ne, bne_eq_false_iff_eq, Bool.not_eq_true', Bool.not_eq_false', Int.not_lt, Int.not_le, ne_eq, reduceCtorEq, not_true_eq_false, not_false_eq_true, Decidable.not_not] at hc) <;> (try (exfalso; omega)) <;> (try refine W_norm rfl ?_))
              | refine W_skip ?_
              | refine W_block ?_
            )
            | refine seqK_n ?_
            | refine blockK_n ?_
            | refine invK_n ?_)
          have hx2 : 256 * xq b i k = xq b i (k + 1) := by rw [hx1, hbk]; omega
          have hm : ((min k (b.length - i) : Nat) : Int) = ((min (k + 1) (b.length - i) : Nat) : Int) := by omega
          rw [hx2, hm]
          refine ⟨_, ?_, _, ⟨k + 1, rfl, rfl, ?_, hs⟩, EnvB.of rfl⟩ <;> omega
      · obtain rfl : k = 3 := by omega
        have hx3 : 0 ≤ xq b i 3 ∧ xq b i 3 < 16777216 := by
          show 0 ≤ 256 * (256 * bq b i 0 + bq b i 1) + bq b i 2 ∧ 256 * (256 * bq b i 0 + bq b i 1) + bq b i 2 < 16777216; omega
        have hge := grp_eq hlt
        have het := encG_take hi3 hlt
        have hel := encG_len (b.take i)
        have htk : (b.take i).length ≤ 4200 := by rw [List.length_take]; omega
        generalize xq b i 3 = X at *
        repeat' (first
          | (refine K_ops ?_; first
            | refine W_fastB rfl ?_
            | refine W_nil ?_
            | (refine W_buildS (intEl .u8) hs (cs := [.int .u8 (((sp (X / 262144)).toNat : Nat) : Int), .int .u8 (((sp (X / 4096 % 64)).toNat : Nat) : Int), .int .u8 (((sp (X / 64 % 64)).toNat : Nat) : Int), .int .u8 (((sp (X % 64)).toNat : Nat) : Int)]) rfl rfl ?_; clear hs; intro v' c' h6 ha hv' hs; refine W_norm rfl ?_)
            | (refine W_bytesStr (L := [sp (X / 262144), sp (X / 4096 % 64), sp (X / 64 % 64), sp (X % 64)]) (bytes_of (OwnS.now (by assumption) hs (by simp))) rfl ?_; refine W_norm rfl ?_)
            | (refine K_bin ?_; first
              | (refine W_add rfl rfl (IntWalk.i64_in _ (by first | omega | (simp only [List.length_set, List.length_append, List.length_take, List.length_drop, List.length_replicate, List.length_cons, List.length_nil, decs_length, List.length_map]; omega))) ?_; refine W_norm rfl ?_)
              | (refine W_sub rfl rfl (IntWalk.i64_in _ (by first | omega | (simp only [List.length_set, List.length_append, List.length_take, List.length_drop, List.length_replicate, List.length_cons, List.length_nil, decs_length, List.length_map]; omega))) ?_; refine W_norm rfl ?_)
              | (refine W_div rfl rfl (by omega) ?_; refine W_norm rfl ?_)
              | (refine W_mod rfl rfl (by omega) ?_; refine W_norm rfl ?_)
              | (refine W_cat rfl rfl (by first | omega | (simp only [List.length_set, List.length_append, List.length_take, List.length_drop, List.length_replicate, List.length_cons, List.length_nil, decs_length, List.length_map]; omega)) ?_; refine W_norm rfl ?_)
            )
            | (refine W_sliceStrTo rfl rfl ⟨(by first | omega | (simp only [List.length_set, List.length_append, List.length_take, List.length_drop, List.length_replicate, List.length_cons, List.length_nil, decs_length, List.length_map]; omega)), (by first | omega | (simp only [List.length_set, List.length_append, List.length_take, List.length_drop, List.length_replicate, List.length_cons, List.length_nil, decs_length, List.length_map]; omega))⟩ ?_; refine W_norm rfl ?_)
            | (refine W_idxStr rfl rfl ⟨(by first | omega | (simp only [List.length_set, List.length_append, List.length_take, List.length_drop, List.length_replicate, List.length_cons, List.length_nil, decs_length, List.length_map]; omega)), (by first | omega | (simp only [List.length_set, List.length_append, List.length_take, List.length_drop, List.length_replicate, List.length_cons, List.length_nil, decs_length, List.length_map]; omega))⟩ ?_; refine W_norm rfl ?_)
          )
          | (refine K_code ?_; first
            | refine W_seq ?_
            | refine W_ops ?_
            | refine W_cond_f rfl ?_
            | refine W_exit ?_
            | refine W_draw rfl ?_
          )
          | refine seqK_n ?_
          | refine seqK_x ?_
          | refine blockK_n ?_
          | refine blockK_e ?_
          | refine invK_x ?_
          | refine invK_n ?_)
        have hN : (((min 3 (b.length - i) : Nat) : Int) + 1).toNat = min 3 (b.length - i) + 1 := by omega
        have hM : ((3 : Int) - ((min 3 (b.length - i) : Nat) : Int)).toNat = 3 - min 3 (b.length - i) := by omega
        rw [hN, hM, List.append_assoc, hge, ← het]
        refine ⟨_, ?_, _, ⟨i + 3, rfl, rfl, ?_, ?_, hs.drop 0⟩, EnvB.of rfl⟩ <;> omega
    · have htk : b.take i = b := List.take_of_length_le (by omega)
      rw [htk]
      have hel := encG_len b
      have hde := dec_enc b
      have hsy := sys_clip sel b g3
      by_cases h4 : b.length ≤ 4096
      · rw [if_pos h4] at hsy
        repeat' (first
          | (refine K_ops ?_; first
            | refine W_fastB rfl ?_
            | refine W_nil ?_
            | (refine K_guard ?_; first
              | refine W_guard_on rfl ?_
            )
            | (refine K_call ?_; first
              | (refine W_callsN 13 rfl (w13 (s := encG b) (by omega)) rfl ?_; rintro _ h ⟨rfl, t⟩; rw [hde]; replace hs := hs.call t; try simp only [cell_back, attr_back, List.set_cons_zero, List.set_cons_succ, List.eraseIdx_cons_succ, List.eraseIdx_zero, List.tail_cons, List.nil_append, List.cons_append] at hs; refine W_norm rfl ?_)
              | (refine W_callsN 14 rfl (w14 (tx := [53, 50, 59] ++ sel ++ [59] ++ encG b) (by simp only [List.length_append, List.length_cons, List.length_nil]; omega)) rfl ?_; rintro _ h ⟨rfl, t⟩; rw [hsy]; unfold flowC; replace hs := hs.call t; try simp only [cell_back, attr_back, List.set_cons_zero, List.set_cons_succ, List.eraseIdx_cons_succ, List.eraseIdx_zero, List.tail_cons, List.nil_append, List.cons_append] at hs; refine W_norm rfl ?_)
            )
            | (refine K_bin ?_; first
              | (refine W_cat rfl rfl (by first | omega | (simp only [List.length_set, List.length_append, List.length_take, List.length_drop, List.length_replicate, List.length_cons, List.length_nil, decs_length, List.length_map]; omega)) ?_; refine W_norm rfl ?_)
              | (refine W_eqE flowE rfl rfl rfl rfl flowE_fits ?_; refine W_norm rfl ?_)
            )
            | (refine K_pick ?_; first
              | refine W_pick_f rfl rfl (W_norm rfl ?_)
            )
            | (refine K_load ?_; first
              | (refine W_loadCA hs 0 rfl rfl rfl ?_; refine W_norm rfl ?_)
            )
            | (refine K_store ?_; first
              | (refine W_storeC hs 0 rfl rfl rfl rfl (by first | decide | assumption) rfl rfl ?_; clear hs; intro _ hs; try simp only [cell_back, attr_back, List.set_cons_zero, List.set_cons_succ, List.eraseIdx_cons_succ, List.eraseIdx_zero, List.tail_cons, List.nil_append, List.cons_append] at hs; refine W_norm rfl ?_)
            )
            | (refine W_allocS hs ?_; clear hs; intro al _ hs; try simp only [cell_back, attr_back, List.set_cons_zero, List.set_cons_succ, List.eraseIdx_cons_succ, List.eraseIdx_zero, List.tail_cons, List.nil_append, List.cons_append] at hs; refine W_norm rfl ?_)
            | (refine W_buildN rfl ?_; refine W_norm rfl ?_)
          )
          | (refine K_code ?_; first
            | refine W_seq ?_
            | refine W_ops ?_
            | (refine W_cond rfl (fun hc => ?_) (fun hc => ?_) <;> (try rw [hc]) <;> (try simp only [decide_eq_true_eq, decide_eq_false_iff_not, beq_iff_eq, beq_eq_false_iff_ne, bne_iff_ne, bne_eq_false_iff_eq, Bool.not_eq_true', Bool.not_eq_false', Int.not_lt, Int.not_le, ne_eq, reduceCtorEq, not_true_eq_false, not_false_eq_true, Decidable.not_not] at hc) <;> (try (exfalso; omega)) <;> (try refine W_norm rfl ?_))
            | refine W_skip ?_
            | refine W_ret ?_
            | refine W_exit ?_
          )
          | refine seqK_n ?_
          | refine seqK_r ?_
          | refine seqK_x ?_
          | refine blockK_e ?_
          | refine invK_x ?_
          | (refine fnK_r rfl ?_; try dsimp only [gd_z, gd_s]))
        all_goals first
          | exact ⟨_, rfl, rfl⟩
          | (exfalso; omega)
          | exact absurd rfl hc
          | exact ⟨_, rfl, congrArg bo (decide_eq_true rfl)⟩
          | skip
      · rw [if_neg h4] at hsy
        repeat' (first
          | (refine K_ops ?_; first
            | refine W_fastB rfl ?_
            | refine W_nil ?_
            | (refine K_guard ?_; first
              | refine W_guard_on rfl ?_
            )
            | (refine K_call ?_; first
              | (refine W_callsN 13 rfl (w13 (s := encG b) (by omega)) rfl ?_; rintro _ h ⟨rfl, t⟩; rw [hde]; replace hs := hs.call t; try simp only [cell_back, attr_back, List.set_cons_zero, List.set_cons_succ, List.eraseIdx_cons_succ, List.eraseIdx_zero, List.tail_cons, List.nil_append, List.cons_append] at hs; refine W_norm rfl ?_)
              | (refine W_callsN 14 rfl (w14 (tx := [53, 50, 59] ++ sel ++ [59] ++ encG b) (by simp only [List.length_append, List.length_cons, List.length_nil]; omega)) rfl ?_; rintro _ h ⟨rfl, t⟩; rw [hsy]; unfold flowC; replace hs := hs.call t; try simp only [cell_back, attr_back, List.set_cons_zero, List.set_cons_succ, List.eraseIdx_cons_succ, List.eraseIdx_zero, List.tail_cons, List.nil_append, List.cons_append] at hs; refine W_norm rfl ?_)
            )
            | (refine K_bin ?_; first
              | (refine W_cat rfl rfl (by first | omega | (simp only [List.length_set, List.length_append, List.length_take, List.length_drop, List.length_replicate, List.length_cons, List.length_nil, decs_length, List.length_map]; omega)) ?_; refine W_norm rfl ?_)
            )
            | (refine K_pick ?_; first
              | refine W_pick_f rfl rfl (W_norm rfl ?_)
            )
            | (refine K_load ?_; first
              | (refine W_loadC hs 0 rfl rfl rfl ?_; refine W_norm rfl ?_)
            )
            | (refine K_store ?_; first
              | (refine W_storeC hs 0 rfl rfl rfl rfl (by first | decide | assumption) rfl rfl ?_; clear hs; intro _ hs; try simp only [cell_back, attr_back, List.set_cons_zero, List.set_cons_succ, List.eraseIdx_cons_succ, List.eraseIdx_zero, List.tail_cons, List.nil_append, List.cons_append] at hs; refine W_norm rfl ?_)
            )
            | (refine W_allocS hs ?_; clear hs; intro al _ hs; try simp only [cell_back, attr_back, List.set_cons_zero, List.set_cons_succ, List.eraseIdx_cons_succ, List.eraseIdx_zero, List.tail_cons, List.nil_append, List.cons_append] at hs; refine W_norm rfl ?_)
          )
          | (refine K_code ?_; first
            | refine W_seq ?_
            | refine W_ops ?_
            | (refine W_cond rfl (fun hc => ?_) (fun hc => ?_) <;> (try rw [hc]) <;> (try simp only [decide_eq_true_eq, decide_eq_false_iff_not, beq_iff_eq, beq_eq_false_iff_ne, bne_iff_ne, bne_eq_false_iff_eq, Bool.not_eq_true', Bool.not_eq_false', Int.not_lt, Int.not_le, ne_eq, reduceCtorEq, not_true_eq_false, not_false_eq_true, Decidable.not_not] at hc) <;> (try (exfalso; omega)) <;> (try refine W_norm rfl ?_))
            | refine W_skip ?_
            | refine W_ret ?_
            | refine W_exit ?_
          )
          | refine seqK_n ?_
          | refine seqK_r ?_
          | refine seqK_x ?_
          | refine blockK_e ?_
          | refine invK_x ?_
          | (refine fnK_r rfl ?_; try dsimp only [gd_z, gd_s]))
        all_goals first
          | exact ⟨_, rfl, rfl⟩
          | (exfalso; omega)
          | exact absurd rfl hc
          | exact ⟨_, rfl, congrArg bo (decide_eq_true rfl)⟩
          | skip
  · repeat' (first
      | (refine K_ops ?_; first
        | refine W_fastB rfl ?_
        | refine W_nil ?_
        | (refine K_guard ?_; first
          | refine W_guard_on rfl ?_
          | refine W_guard_off rfl rfl (W_norm rfl ?_)
          | (refine W_guardF rfl (fun hc => ?_) (fun hc => ?_) <;> (try rw [hc]) <;> (try simp only [decide_eq_true_eq, decide_eq_false_iff_not, beq_iff_eq, beq_eq_false_iff_ne, bne_iff_ne, bne_eq_false_iff_eq, Bool.not_eq_true', Bool.not_eq_false', Int.not_lt, Int.not_le, ne_eq, reduceCtorEq, not_true_eq_false, not_false_eq_true, Decidable.not_not] at hc) <;> (try (exfalso; omega)) <;> (try refine W_norm rfl ?_))
        )
        | (refine K_call ?_; first
          | (refine W_callsN 8 rfl (w8 _) rfl ?_; rintro _ h ⟨rfl, rfl⟩; refine W_norm rfl ?_)
          | (refine W_callsN 12 rfl (w12 sel 59 _) rfl ?_; rintro _ h ⟨rfl, rfl⟩; refine W_norm rfl ?_)
        )
        | (refine K_pick ?_; first
          | refine W_pick_t rfl rfl (W_norm rfl ?_)
          | refine W_pick_f rfl rfl (W_norm rfl ?_)
        )
      )
      | (refine K_code ?_; first
        | refine W_seq ?_
        | refine W_ops ?_
        | refine W_cond_t rfl ?_
        | refine W_cond_f rfl ?_
        | (refine W_cond rfl (fun hc => ?_) (fun hc => ?_) <;> (try rw [hc]) <;> (try simp only [decide_eq_true_eq, decide_eq_false_iff_not, beq_iff_eq, beq_eq_false_iff_ne, bne_iff_ne, bne_eq_false_iff_eq, Bool.not_eq_true', Bool.not_eq_false', Int.not_lt, Int.not_le, ne_eq, reduceCtorEq, not_true_eq_false, not_false_eq_true, Decidable.not_not] at hc) <;> (try (exfalso; omega)) <;> (try refine W_norm rfl ?_))
        | refine W_skip ?_
        | refine W_ret ?_
        | refine W_block ?_
      )
      | refine seqK_n ?_
      | refine seqK_r ?_
      | (refine fnK_r rfl ?_; try dsimp only [gd_z, gd_s]))
    all_goals first | exact ⟨_, rfl, rfl⟩ | (exfalso; exact hg ⟨by omega, by omega, by assumption⟩) | (exfalso; apply hg; refine ⟨by omega, by omega, ?_⟩; simpa using hc) | skip
theorem walk_gateClip (H : Heap) (avs : List AV) (hwf : H.l.length = H.n) (hs : Sub (HL Tryd.prog.globals.size jxLs) H) (ho : OpenA H [(false, [.str]), (false, [.str])] avs) : W DD (.call 4 avs H) (fun _ vs _ => vs = [.sc (.bool true)]) := by
  simp only [OpenA] at ho
  obtain ⟨_, _, _, hk, rfl, o1, _, _, _, hk2, rfl, o2, rfl⟩ := ho
  cases hk
  cases hk2
  simp only [OpenS] at o1 o2
  obtain ⟨a, rfl, ha⟩ := o1
  obtain ⟨b, rfl, hb⟩ := o2
  exact (w4 ha hb).mono fun _ _ _ ⟨v, hv, h3⟩ => by rw [hv, h3]
end Go.Proofs.YtggkbkbhegcbkaaDoor
