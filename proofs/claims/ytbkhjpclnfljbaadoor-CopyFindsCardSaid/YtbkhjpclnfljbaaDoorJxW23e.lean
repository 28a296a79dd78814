/- Views: the search. -/
import Derived.Test.YtbkhjpclnfljbaaDoorJxW23d
set_option linter.unusedSimpArgs false
set_option linter.unusedVariables false
set_option maxHeartbeats 1000000
set_option maxRecDepth 100000
namespace Go.Proofs.YtbkhjpclnfljbaaDoor
open Go Go.Jx

def spotE : El Spot := ⟨2, fun p => [.int .i64 p.1, .int .i64 p.2], fun l => match l with | [.int _ a, .int _ b] => (a, b) | _ => (0, 0), (0, 0), fun _ => rfl, by decide, fun _ => rfl⟩
def spotsK (L : List Ln) (t : List UInt8) (k : Nat) : List Spot := (List.range k).flatMap fun (y : Nat) => (begL (L.getD y ln0).cells t).map fun (x : Nat) => ((x : Int), (y : Int))
theorem spotsK_succ (L : List Ln) (t : List UInt8) (k : Nat) : spotsK L t (k + 1) = spotsK L t k ++ (begL (L.getD k ln0).cells t).map fun (x : Nat) => ((x : Int), (k : Int)) := by
  unfold spotsK
  rw [List.range_succ, List.flatMap_append]; simp
theorem begL_len (C : List Cell) (t : List UInt8) : (begL C t).length ≤ C.length := by
  have := List.length_filter_le (begB C t) (List.range C.length)
  rwa [List.length_range] at this
theorem spotsK_len {L : List Ln} {h : Int} (k : OkL L h) (t : List UInt8) (n : Nat) (hn : n ≤ L.length) : (spotsK L t n).length ≤ n * 1000 := by
  induction n with
  | zero => simp [spotsK]
  | succ n ih =>
    rw [spotsK_succ, List.length_append, List.length_map]
    have h1 := begL_len (L.getD n ln0).cells t
    have h2 := (k.wid (y := (n : Int)) (by omega) (by omega)).2
    unfold wid at h2
    rw [Int.toNat_natCast] at h2
    have := ih (by omega)
    omega
theorem atL_at {L : List Ln} {G : List LnC} (hm : G.map lnOf = L) {k : Nat} (hk : k < G.length) : (L.getD k ln0).cells = atC G k := by
  subst hm
  rw [List.getD_eq_getElem?_getD, lnOf_atH hk]; rfl
def findR (v : Vw) (t : List UInt8) (back : Bool) : Vw × Int :=
  if 1 ≤ t.length ∧ t.length ≤ 32 then (match findV v t back with | some v' => (v', 0) | none => (v, 4)) else (v, 1)
theorem find_at {A : List Spot} {P : Spot → Bool} {k : Nat} {d : Spot} (hk : k < A.length) (hit : P (A.getD k d) = true) (hz : ∀ i, i < k → P (A.getD i d) = false) : A.find? P = some (A.getD k d) := by
  have hd : A.drop k = A.getD k d :: A.drop (k + 1) := by
    rw [List.drop_eq_getElem_cons hk, List.getD_eq_getElem?_getD, List.getElem?_eq_getElem hk]; rfl
  conv => lhs; rw [← List.take_append_drop k A]
  rw [List.find?_append, hd, List.find?_cons, hit]
  have : (A.take k).find? P = none := by
    rw [List.find?_eq_none]
    intro a ha
    obtain ⟨i, hi, rfl⟩ := List.getElem_of_mem ha
    have hi2 : i < k := by rw [List.length_take] at hi; omega
    have := hz i hi2
    rw [List.getD_eq_getElem?_getD, List.getElem?_eq_getElem (by omega)] at this
    rw [List.getElem_take]
    simpa using this
  rw [this, Option.none_or]
theorem find_no {A : List Spot} {P : Spot → Bool} {d : Spot} (hz : ∀ i, i < A.length → P (A.getD i d) = false) : A.find? P = none := by
  rw [List.find?_eq_none]
  intro a ha
  obtain ⟨i, hi, rfl⟩ := List.getElem_of_mem ha
  have := hz i hi
  rw [List.getD_eq_getElem?_getD, List.getElem?_eq_getElem hi] at this
  simpa using this
theorem head_at {A : List Spot} {d : Spot} (h : 0 < A.length) : A.head? = some (A.getD 0 d) := by
  cases A with
  | nil => simp at h
  | cons a A => rfl
theorem last_at {A : List Spot} {d : Spot} (h : 0 < A.length) : A.getLast? = some (A.getD (A.length - 1) d) := by
  rw [List.getLast?_eq_getElem?, List.getD_eq_getElem?_getD, List.getElem?_eq_getElem (by omega)]; rfl
/-- The last one ahead of a place, of the first k. -/
def lastB (A : List Spot) (p : Spot) (k : Nat) : Spot := match ((A.take k).filter fun q => bef q p).getLast? with | some q => q | none => A.getD (A.length - 1) spotE.dflt
theorem lastB_zero (A : List Spot) (p : Spot) : lastB A p 0 = A.getD (A.length - 1) spotE.dflt := rfl
theorem lastB_hit {A : List Spot} {p : Spot} {k : Nat} (hk : k < A.length) (h : bef (A.getD k spotE.dflt) p = true) : lastB A p (k + 1) = A.getD k spotE.dflt := by
  unfold lastB
  rw [List.take_add_one, getD_get? (d := spotE.dflt) hk, List.filter_append]
  simp only [Option.toList_some, List.filter_cons, h, if_true, List.filter_nil, List.getLast?_append, List.getLast?_singleton, Option.some_or]
theorem lastB_miss {A : List Spot} {p : Spot} {k : Nat} (hk : k < A.length) (h : bef (A.getD k spotE.dflt) p = false) : lastB A p (k + 1) = lastB A p k := by
  unfold lastB
  rw [List.take_add_one, getD_get? (d := spotE.dflt) hk, List.filter_append]
  simp only [Option.toList_some, List.filter_cons, h, Bool.false_eq_true, if_false, List.filter_nil, List.append_nil]
theorem lastB_end {A : List Spot} {p : Spot} (h : 0 < A.length) : pickB A p = some (lastB A p A.length) := by
  unfold lastB pickB
  rw [List.take_of_length_le (Nat.le_refl _)]
  cases hh : (A.filter fun q => bef q p).getLast? with
  | some q => rfl
  | none => exact last_at h
theorem w13 {R : Ro} {M : List Hp} {h : Heap} {id : Nat} {lv mk : SV} {v : Vw} {G : List LnC} {q : List UInt8} {back : Bool} (hs : Sep R (vwO id lv mk v :: M) h) (hG : VwR R lv mk v G) (ok : OkV v) (ht : q.length ≤ 9223372036854775807) :
    Wc DD 13 [.sc (.ptr id 0), .sc (.str q), bo back] h fun w h' => w = i64 (findR v q back).2 ∧ Sep R (vwO id lv mk (findR v q back).1 :: M) h' := by
  have hl := hG.ln
  have hlen := hG.len
  have ok1 := ok.l.len
  have ok2 := ok.l.big
  have hln := hG.lns.1
  have hGl : (G.map Prod.fst).length = v.L.length := by rw [List.length_map]; exact hlen
  have hcl : ∀ g ∈ G, g.2.length ≤ 1000 := fun g hg => (ok.l.cells (lnOf g) (by rw [← hG.map]; exact List.mem_map_of_mem hg)).2
  by_cases h32 : 1 ≤ q.length ∧ q.length ≤ 32
  · have ef : findR v q back = (match findV v q back with | some v' => (v', 0) | none => (v, 4)) := by unfold findR; rw [if_pos h32]
    rw [ef]
    refine W_enter d13 ?_
    show W _ (.code m13_code [.sc (.ptr id 0), .sc (.str q), bo back, undefA, undefA, undefA, undefA, undefA, undefA, undefA, undefA, undefA, undefA, undefA, undefA, undefA, undefA, undefA, undefA, undefA, undefA, undefA, undefA, undefA, undefA, undefA, undefA, undefA, undefA, undefA, undefA, undefA, undefA, undefA, undefA, undefA, undefA, undefA, undefA, undefA, undefA, undefA, undefA, undefA, undefA, undefA, undefA, undefA, undefA, undefA, undefA, undefA, undefA, undefA, undefA, undefA, undefA, undefA, undefA, undefA, undefA, undefA, undefA, undefA, undefA, undefA, undefA, undefA, undefA, undefA, undefA, undefA, undefA, undefA, undefA, undefA, undefA, undefA, undefA, undefA, undefA, undefA, undefA, undefA, undefA, undefA, undefA, undefA, undefA, undefA, undefA, undefA, undefA, undefA, undefA, undefA, undefA, undefA, undefA, undefA] _) _
    unfold m13_code
    repeat' (first
      | (refine K_ops ?_; first
        | refine W_fastB rfl ?_
        | refine W_nil ?_
        | (refine K_guard ?_; first
          | refine W_guard_on rfl ?_
          | (refine W_guardF rfl (fun hc => ?_) (fun hc => ?_) <;> (try rw [hc]) <;> (try simp only [decide_eq_true_eq, decide_eq_false_iff_not, beq_iff_eq, beq_eq_false_iff_ne, bne_iff_ne, bne_eq_false_iff_eq, Bool.not_eq_true', Bool.not_eq_false', Int.not_lt, Int.not_le, ne_eq, reduceCtorEq, not_true_eq_false, not_false_eq_true, Decidable.not_not] at hc) <;> (try (exfalso; omega)) <;> (try refine W_norm rfl ?_))
        )
        | (refine K_call ?_; first
          | (refine W_callsN 33 rfl (w33 hs hl ok1) rfl ?_; rintro _ h ⟨rfl, rfl⟩; refine W_norm rfl ?_)
        )
        | (refine W_lenL rfl (by first | assumption | exact SlR.ln (by assumption) | exact AccS.ln (by assumption) | exact OwnS.ln (by assumption) | exact VwO.ln (by assumption) | exact OwnP.ln (by assumption) | exact Len.sl) ?_; refine W_norm rfl ?_)
        | (refine K_pick ?_; first
          | refine W_pick_f rfl rfl (W_norm rfl ?_)
        )
        | (refine K_load ?_; first
          | (refine W_loadC hs 0 rfl rfl rfl ?_; refine W_norm rfl ?_)
        )
      )
      | (refine K_code ?_; first
        | refine W_seq ?_
        | refine W_ops ?_
        | refine W_cond_f rfl ?_
        | (refine W_cond rfl (fun hc => ?_) (fun hc => ?_) <;> (try rw [hc]) <;> (try simp only [decide_eq_true_eq, decide_eq_false_iff_not, beq_iff_eq, beq_eq_false_iff_ne, bne_iff_ne, bne_eq_false_iff_eq, Bool.not_eq_true', Bool.not_eq_false', Int.not_lt, Int.not_le, ne_eq, reduceCtorEq, not_true_eq_false, not_false_eq_true, Decidable.not_not] at hc) <;> (try (exfalso; omega)) <;> (try refine W_norm rfl ?_))
        | refine W_skip ?_
        | refine W_block ?_
      )
      | refine seqK_n ?_
      | refine blockK_n ?_)
    refine W_loopB [7, 8, 9, 11, 32, 33, 34, 35, 36, 37, 38, 39, 40, 41, 42, 43, 44, 45, 46, 47, 48, 49, 50, 51, 52] [0, 1, 2, 3, 4, 5, 6, 7, 8, 9, 10, 11, 12, 13, 14, 15, 16, 17, 18, 19, 20, 21, 22, 23, 24, 25, 26, 27, 28, 29, 30, 31, 32, 33, 34, 35, 36, 37, 38, 39, 40, 41, 42, 43, 44, 45, 46, 47, 48, 49, 50, 51, 52, 53, 54, 55, 56, 57, 58, 59, 60, 61, 62, 63, 64, 65, 66, 67, 68, 69, 70, 71, 72, 73, 74, 75, 76, 77, 78, 79, 80, 81, 82, 83, 84, 85, 86, 87, 88, 89, 90, 91, 92, 93, 94, 95, 96, 97, 98, 99] (fun n' sl h' => ∃ (k : Nat) (ua : SV) (ca : Hp), sl = [(7, .sc ua), (32, .sc (.int .i64 (k : Int)))] ∧ n' = v.L.length - k ∧ k ≤ v.L.length ∧ AccS spotE 58 ua (spotsK v.L q k) ca ∧ Sep R (ca :: vwO id lv mk v :: M) h') ?_ ?_
    · refine ⟨_, _, ⟨0, .nils, [], rfl, rfl, Nat.zero_le _, AccS.nil _, hs.nil⟩, EnvB.of rfl⟩
    clear hs
    rintro _ _ us _ h2 ⟨k, ua, ca, rfl, rfl, hk, hA, hs⟩ he
    refine W_spell he rfl ?_
    clear he
    unfold m13_l7
    have hal := spotsK_len ok.l q k hk
    by_cases hlt : k < v.L.length
    · have hltG : k < G.length := by omega
      have hrow := hG.lns.at hltG
      have hrn := atC_len hcl hltG
      have hrr : ∀ c ∈ atC G k, -2147483648 ≤ c.r ∧ c.r ≤ 2147483647 := fun c hc => ok.l.runes (atL G k) (by rw [← hG.map]; exact List.mem_of_getElem? (lnOf_atH hltG)) c hc
      repeat' (first
        | (refine K_ops ?_; first
          | refine W_fastB rfl ?_
          | refine W_nil ?_
          | (refine K_call ?_; first
            | (refine W_callsN 35 rfl (w35 (g := atH G k) (SlR.now hs hrow) hrn hrr (by omega)) rfl ?_; rintro _ h3 ⟨ux, cx, rfl, hX, t⟩; replace hs := hs.call t; try simp only [cell_back, attr_back, List.set_cons_zero, List.set_cons_succ, List.eraseIdx_cons_succ, List.eraseIdx_zero, List.tail_cons, List.nil_append, List.cons_append] at hs; refine W_norm rfl ?_)
          )
          | (refine W_lenL rfl (by first | assumption | exact SlR.ln (by assumption) | exact AccS.ln (by assumption) | exact OwnS.ln (by assumption) | exact VwO.ln (by assumption) | exact OwnP.ln (by assumption) | exact Len.sl) ?_; refine W_norm rfl ?_)
          | (refine K_index ?_; first
            | (refine W_indexR rfl rfl (by assumption) rfl ⟨(by first | omega | (simp only [List.length_set, List.length_append, List.length_take, List.length_drop, List.length_replicate, List.length_cons, List.length_nil, decs_length, List.length_map]; omega)), (by first | omega | (simp only [List.length_set, List.length_append, List.length_take, List.length_drop, List.length_replicate, List.length_cons, List.length_nil, decs_length, List.length_map]; omega))⟩ ?_; intro _ _ _; refine W_norm rfl ?_)
          )
          | (refine K_load ?_; first
            | (refine W_loadRA hs rfl (by assumption) rfl ?_; refine W_norm rfl ?_)
            | (refine W_loadCA hs 0 rfl rfl rfl ?_; refine W_norm rfl ?_)
          )
          | (refine K_store ?_; first
            | (refine W_storeC hs 0 rfl rfl rfl rfl (by first | decide | assumption) rfl rfl ?_; clear hs; intro _ hs; try simp only [cell_back, attr_back, List.set_cons_zero, List.set_cons_succ, List.eraseIdx_cons_succ, List.eraseIdx_zero, List.tail_cons, List.nil_append, List.cons_append] at hs; refine W_norm rfl ?_)
          )
          | (refine W_allocS hs ?_; clear hs; intro al _ hs; try simp only [cell_back, attr_back, List.set_cons_zero, List.set_cons_succ, List.eraseIdx_cons_succ, List.eraseIdx_zero, List.tail_cons, List.nil_append, List.cons_append] at hs; refine W_norm rfl ?_)
        )
        | (refine K_code ?_; first
          | refine W_seq ?_
          | refine W_ops ?_
          | (refine W_cond rfl (fun hc => ?_) (fun hc => ?_) <;> (try rw [hc]) <;> (try simp only [decide_eq_true_eq, decide_eq_false_iff_not, beq_iff_eq, beq_eq_false_iff_ne, bne_iff_ne, bne_eq_false_iff_eq, Bool.not_eq_true', Bool.not_eq_false', Int.not_lt, Int.not_le, ne_eq, reduceCtorEq, not_true_eq_false, not_false_eq_true, Decidable.not_not] at hc) <;> (try (exfalso; omega)) <;> (try refine W_norm rfl ?_))
          | refine W_skip ?_
          | refine W_block ?_
        )
        | refine seqK_n ?_)
      replace hs := (hs.freeze 0 rfl).drop 0
      simp only [List.eraseIdx_cons_zero, List.eraseIdx_zero, List.tail_cons] at hs
      have hX2 : SlR (intEl .i64) (R.add cx) ux ((begL (atC G k) q).map fun (x : Nat) => (x : Int)) := hX.add R
      clear hX t
      have hxl := hX2.ln
      rw [List.length_map] at hxl
      have hbl := begL_len (atC G k) q
      have hbm : ((begL (atC G k) q).map fun (x : Nat) => (x : Int)).length = (begL (atC G k) q).length := List.length_map ..
      refine W_loopB [7, 11, 41, 42, 43, 44, 45, 46, 47, 48, 49, 50, 51] [0, 1, 2, 3, 4, 5, 6, 7, 8, 9, 10, 11, 12, 13, 14, 15, 16, 17, 18, 19, 20, 21, 22, 23, 24, 25, 26, 27, 28, 29, 30, 31, 32, 33, 34, 35, 36, 37, 38, 39, 40, 41, 42, 43, 44, 45, 46, 47, 48, 49, 50, 51, 52, 53, 54, 55, 56, 57, 58, 59, 60, 61, 62, 63, 64, 65, 66, 67, 68, 69, 70, 71, 72, 73, 74, 75, 76, 77, 78, 79, 80, 81, 82, 83, 84, 85, 86, 87, 88, 89, 90, 91, 92, 93, 94, 95, 96, 97, 98, 99] (fun n' sl h' => ∃ (j : Nat) (ua : SV) (ca : Hp), sl = [(7, .sc ua), (41, .sc (.int .i64 (j : Int)))] ∧ n' = (begL (atC G k) q).length - j ∧ j ≤ (begL (atC G k) q).length ∧ AccS spotE 58 ua (spotsK v.L q k ++ ((begL (atC G k) q).take j).map fun (x : Nat) => ((x : Int), (k : Int))) ca ∧ Sep (R.add cx) (ca :: vwO id lv mk v :: M) h') ?_ ?_
      · refine ⟨_, _, ⟨0, ua, ca, rfl, rfl, Nat.zero_le _, ?_, hs⟩, EnvB.of rfl⟩
        rw [List.take_zero, List.map_nil, List.append_nil]; exact hA
      clear hs hA
      rintro _ _ us _ h5 ⟨j, ua, ca, rfl, rfl, hj, hA, hs⟩ he
      refine W_spell he rfl ?_
      clear he
      unfold m13_l11
      have hal2 : (spotsK v.L q k ++ ((begL (atC G k) q).take j).map fun (x : Nat) => ((x : Int), (k : Int))).length ≤ 1000000 := by
        rw [List.length_append, List.length_map, List.length_take]; omega
      by_cases hlt2 : j < (begL (atC G k) q).length
      · repeat' (first
          | (refine K_ops ?_; first
            | refine W_fastB rfl ?_
            | refine W_nil ?_
            | (refine K_bin ?_; first
              | (refine W_add rfl rfl (IntWalk.i64_in _ (by first | omega | (simp only [List.length_set, List.length_append, List.length_take, List.length_drop, List.length_replicate, List.length_cons, List.length_nil, decs_length, List.length_map]; omega))) ?_; refine W_norm rfl ?_)
            )
            | (refine K_index ?_; first
              | (refine W_indexR rfl rfl (by assumption) rfl ⟨(by first | omega | (simp only [List.length_set, List.length_append, List.length_take, List.length_drop, List.length_replicate, List.length_cons, List.length_nil, decs_length, List.length_map]; omega)), (by first | omega | (simp only [List.length_set, List.length_append, List.length_take, List.length_drop, List.length_replicate, List.length_cons, List.length_nil, decs_length, List.length_map]; omega))⟩ ?_; intro _ _ _; refine W_norm rfl ?_)
            )
            | (refine K_load ?_; first
              | (refine W_loadR hs rfl (by assumption) rfl ?_; refine W_norm rfl ?_)
            )
            | (refine K_bslice ?_; first
              | (refine W_appB1 spotE hs 0 rfl rfl rfl (by assumption) rfl rfl rfl ⟨by decide, (by first | omega | (simp only [List.length_set, List.length_append, List.length_take, List.length_drop, List.length_replicate, List.length_cons, List.length_nil, decs_length, List.length_map]; omega))⟩ ?_; clear hs; intro _ _ _ _ _ hs; try simp only [cell_back, attr_back, List.set_cons_zero, List.set_cons_succ, List.eraseIdx_cons_succ, List.eraseIdx_zero, List.tail_cons, List.nil_append, List.cons_append] at hs; refine W_norm rfl ?_)
            )
            | (refine W_buildN rfl ?_; refine W_norm rfl ?_)
          )
          | (refine K_code ?_; first
            | refine W_seq ?_
            | refine W_ops ?_
            | (refine W_cond rfl (fun hc => ?_) (fun hc => ?_) <;> (try rw [hc]) <;> (try simp only [decide_eq_true_eq, decide_eq_false_iff_not, beq_iff_eq, beq_eq_false_iff_ne, bne_iff_ne, bne_eq_false_iff_eq, Bool.not_eq_true', Bool.not_eq_false', Int.not_lt, Int.not_le, ne_eq, reduceCtorEq, not_true_eq_false, not_false_eq_true, Decidable.not_not] at hc) <;> (try (exfalso; omega)) <;> (try refine W_norm rfl ?_))
            | refine W_skip ?_
            | refine W_block ?_
          )
          | refine seqK_n ?_
          | refine blockK_n ?_
          | refine invK_n ?_)
        rename_i ha
        have ev : ((begL (atC G k) q).map fun (x : Nat) => (x : Int)).getD (j : Int).toNat (intEl .i64).dflt = (((begL (atC G k) q)[j]'hlt2 : Nat) : Int) := by
          rw [Int.toNat_natCast, List.getD_eq_getElem?_getD, List.getElem?_map, List.getElem?_eq_getElem hlt2]; rfl
        rw [ev] at ha
        refine ⟨_, ?_, _, ⟨j + 1, _, _, rfl, rfl, ?_, ?_, hs⟩, EnvB.of rfl⟩
        · omega
        · omega
        · rw [List.take_add_one, List.getElem?_eq_getElem hlt2, List.map_append, ← List.append_assoc]; exact ha
      · repeat' (first
          | (refine K_ops ?_; first
            | refine W_fastB rfl ?_
            | refine W_nil ?_
            | (refine K_bin ?_; first
              | (refine W_add rfl rfl (IntWalk.i64_in _ (by first | omega | (simp only [List.length_set, List.length_append, List.length_take, List.length_drop, List.length_replicate, List.length_cons, List.length_nil, decs_length, List.length_map]; omega))) ?_; refine W_norm rfl ?_)
            )
          )
          | (refine K_code ?_; first
            | refine W_seq ?_
            | refine W_ops ?_
            | (refine W_cond rfl (fun hc => ?_) (fun hc => ?_) <;> (try rw [hc]) <;> (try simp only [decide_eq_true_eq, decide_eq_false_iff_not, beq_iff_eq, beq_eq_false_iff_ne, bne_iff_ne, bne_eq_false_iff_eq, Bool.not_eq_true', Bool.not_eq_false', Int.not_lt, Int.not_le, ne_eq, reduceCtorEq, not_true_eq_false, not_false_eq_true, Decidable.not_not] at hc) <;> (try (exfalso; omega)) <;> (try refine W_norm rfl ?_))
            | refine W_exit ?_
          )
          | refine seqK_n ?_
          | refine seqK_x ?_
          | refine blockK_n ?_
          | refine blockK_e ?_
          | refine invK_x ?_
          | refine invK_n ?_)
        obtain rfl : j = (begL (atC G k) q).length := by omega
        rw [List.take_of_length_le (Nat.le_refl _)] at hA
        refine ⟨_, ?_, _, ⟨k + 1, ua, ca, rfl, rfl, ?_, ?_, hs.unadd⟩, EnvB.of rfl⟩
        · omega
        · omega
        · rw [spotsK_succ, atL_at hG.map hltG]; exact hA
    · obtain rfl : k = v.L.length := by omega
      replace hs := hs.freeze 0 rfl
      simp only [List.eraseIdx_cons_zero, List.eraseIdx_zero, List.tail_cons] at hs
      obtain ⟨A, hAe⟩ : ∃ A, A = spotsL v.L q := ⟨_, rfl⟩
      have hA2 : SlR spotE (R.add ca) ua A := by rw [hAe]; exact hA.add R
      have hAl : A.length ≤ 1000000 := by
        have : A.length = (spotsK v.L q v.L.length).length := by rw [hAe]; rfl
        omega
      have hSo : Sorted A := by rw [hAe]; exact spotsL_sorted _ _
      have hAin : ∀ p ∈ A, InV v.L p := fun p hp => spotsL_in (by rw [← hAe]; exact hp)
      have hfv : findV v q back = (pickL A (v.x, v.y) back).map fun p => toV v p.1 p.2 := by rw [hAe]; rfl
      rw [hfv]
      have hin : ∀ i, i < A.length → (0 ≤ (A.getD i spotE.dflt).1 ∧ (A.getD i spotE.dflt).1 ≤ 1000 ∧ 0 ≤ (A.getD i spotE.dflt).2 ∧ (A.getD i spotE.dflt).2 ≤ 1000) := fun i hi => by
        have := inV_lt ok.l (hAin _ (getD_mem' (d := spotE.dflt) hi))
        omega
      clear hA hal hfv ef
      have hal := hA2.ln
      by_cases h0 : A.length = 0
      · obtain rfl := List.eq_nil_of_length_eq_zero h0
        repeat' (first
          | (refine K_ops ?_; first
            | refine W_fastB rfl ?_
            | refine W_nil ?_
            | (refine W_lenL rfl (by first | assumption | exact SlR.ln (by assumption) | exact AccS.ln (by assumption) | exact OwnS.ln (by assumption) | exact VwO.ln (by assumption) | exact OwnP.ln (by assumption) | exact Len.sl) ?_; refine W_norm rfl ?_)
          )
          | (refine K_code ?_; first
            | refine W_seq ?_
            | refine W_ops ?_
            | refine W_cond_t rfl ?_
            | (refine W_cond rfl (fun hc => ?_) (fun hc => ?_) <;> (try rw [hc]) <;> (try simp only [decide_eq_true_eq, decide_eq_false_iff_not, beq_iff_eq, beq_eq_false_iff_ne, bne_iff_ne, bne_eq_false_iff_eq, Bool.not_eq_true', Bool.not_eq_false', Int.not_lt, Int.not_le, ne_eq, reduceCtorEq, not_true_eq_false, not_false_eq_true, Decidable.not_not] at hc) <;> (try (exfalso; omega)) <;> (try refine W_norm rfl ?_))
            | refine W_ret ?_
            | refine W_exit ?_
          )
          | refine seqK_n ?_
          | refine seqK_r ?_
          | refine seqK_x ?_
          | refine blockK_e ?_
          | refine invK_x ?_
          | (refine fnK_r rfl ?_; try dsimp only [gd_z, gd_s]))
        have e0 : pickL [] (v.x, v.y) back = none := pickL_none.2 rfl
        rw [e0]
        exact ⟨_, rfl, rfl, hs.unadd⟩
      · have hal0 : 0 < A.length := by omega
        have hVm : VwR (R.add ca) lv mk v G := hG.mono (Ro.le_add _ _)
        cases back
        · repeat' (first
            | (refine K_ops ?_; first
              | refine W_fastB rfl ?_
              | refine W_nil ?_
              | (refine W_lenL rfl (by first | assumption | exact SlR.ln (by assumption) | exact AccS.ln (by assumption) | exact OwnS.ln (by assumption) | exact VwO.ln (by assumption) | exact OwnP.ln (by assumption) | exact Len.sl) ?_; refine W_norm rfl ?_)
              | (refine K_index ?_; first
                | (refine W_indexR rfl rfl (by assumption) rfl ⟨(by first | omega | (simp only [List.length_set, List.length_append, List.length_take, List.length_drop, List.length_replicate, List.length_cons, List.length_nil, decs_length, List.length_map]; omega)), (by first | omega | (simp only [List.length_set, List.length_append, List.length_take, List.length_drop, List.length_replicate, List.length_cons, List.length_nil, decs_length, List.length_map]; omega))⟩ ?_; intro _ _ _; refine W_norm rfl ?_)
              )
              | (refine K_load ?_; first
                | (refine W_loadRA hs rfl (by assumption) rfl ?_; refine W_norm rfl ?_)
              )
              | (refine K_store ?_; first
                | (refine W_storeC hs 0 rfl rfl rfl rfl (by first | decide | assumption) rfl rfl ?_; clear hs; intro _ hs; try simp only [cell_back, attr_back, List.set_cons_zero, List.set_cons_succ, List.eraseIdx_cons_succ, List.eraseIdx_zero, List.tail_cons, List.nil_append, List.cons_append] at hs; refine W_norm rfl ?_)
              )
              | (refine W_allocS hs ?_; clear hs; intro al _ hs; try simp only [cell_back, attr_back, List.set_cons_zero, List.set_cons_succ, List.eraseIdx_cons_succ, List.eraseIdx_zero, List.tail_cons, List.nil_append, List.cons_append] at hs; refine W_norm rfl ?_)
            )
            | (refine K_code ?_; first
              | refine W_seq ?_
              | refine W_ops ?_
              | refine W_cond_f rfl ?_
              | (refine W_cond rfl (fun hc => ?_) (fun hc => ?_) <;> (try rw [hc]) <;> (try simp only [decide_eq_true_eq, decide_eq_false_iff_not, beq_iff_eq, beq_eq_false_iff_ne, bne_iff_ne, bne_eq_false_iff_eq, Bool.not_eq_true', Bool.not_eq_false', Int.not_lt, Int.not_le, ne_eq, reduceCtorEq, not_true_eq_false, not_false_eq_true, Decidable.not_not] at hc) <;> (try (exfalso; omega)) <;> (try refine W_norm rfl ?_))
              | refine W_skip ?_
              | refine W_exit ?_
              | refine W_block ?_
            )
            | refine seqK_n ?_
            | refine seqK_x ?_
            | refine blockK_e ?_
            | refine invK_x ?_)
          obtain ⟨b12, hb12⟩ : ∃ b, b = al := ⟨_, rfl⟩
          subst hb12
          refine W_loopB [14, 68, 69, 70, 71, 72, 73, 74, 75, 76, 77, 78, 79, 80, 81, 82, 83, 84, 85, 86, 87, 88, 89, 90, 91, 92, 93] [0, 1, 2, 3, 4, 5, 6, 7, 8, 9, 10, 11, 12, 13, 14, 15, 16, 17, 18, 19, 20, 21, 22, 23, 24, 25, 26, 27, 28, 29, 30, 31, 32, 33, 34, 35, 36, 37, 38, 39, 40, 41, 42, 43, 44, 45, 46, 47, 48, 49, 50, 51, 52, 53, 54, 55, 56, 57, 58, 59, 60, 61, 62, 63, 64, 65, 66, 67, 68, 69, 70, 71, 72, 73, 74, 75, 76, 77, 78, 79, 80, 81, 82, 83, 84, 85, 86, 87, 88, 89, 90, 91, 92, 93, 94, 95, 96, 97, 98, 99] (fun n' sl h' => ∃ (k : Nat), sl = [(68, .sc (.int .i64 (k : Int)))] ∧ n' = A.length - k ∧ k ≤ A.length ∧ (∀ i, i < k → bef (v.x, v.y) (A.getD i spotE.dflt) = false) ∧ Sep (R.add ca) ([(b12, .cells 58 .own [.int .i64 (A.getD 0 spotE.dflt).1, .int .i64 (A.getD 0 spotE.dflt).2])] :: vwO id lv mk v :: M) h') ?_ ?_
          · refine ⟨_, _, ⟨0, rfl, rfl, Nat.zero_le _, fun i hi => absurd hi (by omega), hs⟩, EnvB.of rfl⟩
          clear hs
          rintro _ _ us _ h6 ⟨k, rfl, rfl, hk, hz, hs⟩ he
          refine W_spell he rfl ?_
          clear he
          unfold m13_l23
          by_cases hlt2 : k < A.length
          · have hik := hin k hlt2
            repeat' (first
              | (refine K_ops ?_; first
                | refine W_fastB rfl ?_
                | refine W_nil ?_
                | (refine K_guard ?_; first
                  | refine W_guard_on rfl ?_
                  | refine W_guard_off rfl rfl (W_norm rfl ?_)
                )
                | (refine K_call ?_; first
                  | (refine W_callsN 36 rfl (w36 (v.x, v.y) (A.getD (k : Int).toNat spotE.dflt) _) rfl ?_; rintro _ h7 ⟨rfl, t⟩; replace hs := hs.call t; try simp only [cell_back, attr_back, List.set_cons_zero, List.set_cons_succ, List.eraseIdx_cons_succ, List.eraseIdx_zero, List.tail_cons, List.nil_append, List.cons_append] at hs; refine W_norm rfl ?_)
                  | (refine W_callsN 12 rfl (w12 ((hs.drop 0).drop 0) hVm ok (x := (A.getD (k : Int).toNat spotE.dflt).1) (y := (A.getD (k : Int).toNat spotE.dflt).2) (by simp only [Int.toNat_natCast]; omega) (by simp only [Int.toNat_natCast]; omega)) rfl ?_; rintro _ h7 ⟨rfl, hs⟩; refine W_norm rfl ?_)
                )
                | (refine K_bin ?_; first
                  | (refine W_add rfl rfl (IntWalk.i64_in _ (by first | omega | (simp only [List.length_set, List.length_append, List.length_take, List.length_drop, List.length_replicate, List.length_cons, List.length_nil, decs_length, List.length_map]; omega))) ?_; refine W_norm rfl ?_)
                )
                | (refine K_pick ?_; first
                  | refine W_pick_t rfl rfl (W_norm rfl ?_)
                  | refine W_pick_f rfl rfl (W_norm rfl ?_)
                )
                | (refine K_index ?_; first
                  | (refine W_indexR rfl rfl (by assumption) rfl ⟨(by first | omega | (simp only [List.length_set, List.length_append, List.length_take, List.length_drop, List.length_replicate, List.length_cons, List.length_nil, decs_length, List.length_map]; omega)), (by first | omega | (simp only [List.length_set, List.length_append, List.length_take, List.length_drop, List.length_replicate, List.length_cons, List.length_nil, decs_length, List.length_map]; omega))⟩ ?_; intro _ _ _; refine W_norm rfl ?_)
                )
                | (refine K_load ?_; first
                  | (refine W_loadRA hs rfl (by assumption) rfl ?_; refine W_norm rfl ?_)
                  | (refine W_loadCA hs 0 rfl rfl rfl ?_; refine W_norm rfl ?_)
                  | (refine W_loadC hs 1 rfl rfl rfl ?_; refine W_norm rfl ?_)
                  | (refine W_loadCA hs 2 rfl rfl rfl ?_; refine W_norm rfl ?_)
                )
                | (refine K_store ?_; first
                  | (refine W_storeC hs 0 rfl rfl rfl rfl (by first | decide | assumption) rfl rfl ?_; clear hs; intro _ hs; try simp only [cell_back, attr_back, List.set_cons_zero, List.set_cons_succ, List.eraseIdx_cons_succ, List.eraseIdx_zero, List.tail_cons, List.nil_append, List.cons_append] at hs; refine W_norm rfl ?_)
                  | (refine W_storeC hs 1 rfl rfl rfl rfl (by first | decide | assumption) rfl rfl ?_; clear hs; intro _ hs; try simp only [cell_back, attr_back, List.set_cons_zero, List.set_cons_succ, List.eraseIdx_cons_succ, List.eraseIdx_zero, List.tail_cons, List.nil_append, List.cons_append] at hs; refine W_norm rfl ?_)
                )
                | (refine W_allocS hs ?_; clear hs; intro al _ hs; try simp only [cell_back, attr_back, List.set_cons_zero, List.set_cons_succ, List.eraseIdx_cons_succ, List.eraseIdx_zero, List.tail_cons, List.nil_append, List.cons_append] at hs; refine W_norm rfl ?_)
              )
              | (refine K_code ?_; first
                | refine W_seq ?_
                | refine W_ops ?_
                | refine W_cond_f rfl ?_
                | (refine W_cond rfl (fun hc => ?_) (fun hc => ?_) <;> (try rw [hc]) <;> (try simp only [decide_eq_true_eq, decide_eq_false_iff_not, beq_iff_eq, beq_eq_false_iff_ne, bne_iff_ne, bne_eq_false_iff_eq, Bool.not_eq_true', Bool.not_eq_false', Int.not_lt, Int.not_le, ne_eq, reduceCtorEq, not_true_eq_false, not_false_eq_true, Decidable.not_not] at hc) <;> (try (exfalso; omega)) <;> (try refine W_norm rfl ?_))
                | refine W_skip ?_
                | refine W_ret ?_
                | refine W_exit ?_
                | refine W_block ?_
                | refine W_draw rfl ?_
              )
              | refine seqK_n ?_
              | refine seqK_x ?_
              | refine blockK_n ?_
              | refine blockK_e ?_
              | refine blockK_x rfl ?_
              | refine invK_x ?_
              | refine invK_n ?_
              | (refine fnK_r rfl ?_; try dsimp only [gd_z, gd_s]))
            · rw [Int.toNat_natCast] at hc
              simp only [Int.toNat_natCast] at hs
              have e : pickL A (v.x, v.y) false = some (A.getD k spotE.dflt) := by
                show pickF _ _ = _
                unfold pickF
                rw [find_at hlt2 hc hz]
              rw [e]
              exact ⟨_, rfl, rfl, hs.unadd⟩
            · rw [Int.toNat_natCast] at hc
              refine ⟨_, ?_, _, ⟨k + 1, rfl, rfl, ?_, ?_, hs.drop 0⟩, EnvB.of rfl⟩
              · omega
              · omega
              · intro i hi
                by_cases ei : i = k
                · subst ei; exact hc
                · exact hz i (by omega)
          · have hik := hin 0 hal0
            repeat' (first
              | (refine K_ops ?_; first
                | refine W_fastB rfl ?_
                | refine W_nil ?_
                | (refine K_call ?_; first
                  | (refine W_callsN 12 rfl (w12 (hs.drop 0) hVm ok (x := (A.getD 0 spotE.dflt).1) (y := (A.getD 0 spotE.dflt).2) (by omega) (by omega)) rfl ?_; rintro _ h7 ⟨rfl, hs⟩; refine W_norm rfl ?_)
                )
                | (refine K_load ?_; first
                  | (refine W_loadC hs 0 rfl rfl rfl ?_; refine W_norm rfl ?_)
                )
              )
              | (refine K_code ?_; first
                | refine W_seq ?_
                | refine W_ops ?_
                | (refine W_cond rfl (fun hc => ?_) (fun hc => ?_) <;> (try rw [hc]) <;> (try simp only [decide_eq_true_eq, decide_eq_false_iff_not, beq_iff_eq, beq_eq_false_iff_ne, bne_iff_ne, bne_eq_false_iff_eq, Bool.not_eq_true', Bool.not_eq_false', Int.not_lt, Int.not_le, ne_eq, reduceCtorEq, not_true_eq_false, not_false_eq_true, Decidable.not_not] at hc) <;> (try (exfalso; omega)) <;> (try refine W_norm rfl ?_))
                | refine W_ret ?_
                | refine W_exit ?_
              )
              | refine seqK_n ?_
              | refine seqK_x ?_
              | refine blockK_e ?_
              | refine invK_x ?_
              | (refine fnK_r rfl ?_; try dsimp only [gd_z, gd_s]))
            have e : pickL A (v.x, v.y) false = some (A.getD 0 spotE.dflt) := by
              show pickF _ _ = _
              unfold pickF
              rw [find_no (d := spotE.dflt) (fun i hi => hz i (by omega))]
              exact head_at hal0
            rw [e]
            exact ⟨_, rfl, rfl, hs.unadd⟩
        · repeat' (first
            | (refine K_ops ?_; first
              | refine W_fastB rfl ?_
              | refine W_nil ?_
              | (refine W_lenL rfl (by first | assumption | exact SlR.ln (by assumption) | exact AccS.ln (by assumption) | exact OwnS.ln (by assumption) | exact VwO.ln (by assumption) | exact OwnP.ln (by assumption) | exact Len.sl) ?_; refine W_norm rfl ?_)
              | (refine K_bin ?_; first
                | (refine W_sub rfl rfl (IntWalk.i64_in _ (by first | omega | (simp only [List.length_set, List.length_append, List.length_take, List.length_drop, List.length_replicate, List.length_cons, List.length_nil, decs_length, List.length_map]; omega))) ?_; refine W_norm rfl ?_)
              )
              | (refine K_index ?_; first
                | (refine W_indexR rfl rfl (by assumption) rfl ⟨(by first | omega | (simp only [List.length_set, List.length_append, List.length_take, List.length_drop, List.length_replicate, List.length_cons, List.length_nil, decs_length, List.length_map]; omega)), (by first | omega | (simp only [List.length_set, List.length_append, List.length_take, List.length_drop, List.length_replicate, List.length_cons, List.length_nil, decs_length, List.length_map]; omega))⟩ ?_; intro _ _ _; refine W_norm rfl ?_)
              )
              | (refine K_load ?_; first
                | (refine W_loadRA hs rfl (by assumption) rfl ?_; refine W_norm rfl ?_)
              )
              | (refine K_store ?_; first
                | (refine W_storeC hs 0 rfl rfl rfl rfl (by first | decide | assumption) rfl rfl ?_; clear hs; intro _ hs; try simp only [cell_back, attr_back, List.set_cons_zero, List.set_cons_succ, List.eraseIdx_cons_succ, List.eraseIdx_zero, List.tail_cons, List.nil_append, List.cons_append] at hs; refine W_norm rfl ?_)
              )
              | (refine W_allocS hs ?_; clear hs; intro al _ hs; try simp only [cell_back, attr_back, List.set_cons_zero, List.set_cons_succ, List.eraseIdx_cons_succ, List.eraseIdx_zero, List.tail_cons, List.nil_append, List.cons_append] at hs; refine W_norm rfl ?_)
            )
            | (refine K_code ?_; first
              | refine W_seq ?_
              | refine W_ops ?_
              | refine W_cond_t rfl ?_
              | (refine W_cond rfl (fun hc => ?_) (fun hc => ?_) <;> (try rw [hc]) <;> (try simp only [decide_eq_true_eq, decide_eq_false_iff_not, beq_iff_eq, beq_eq_false_iff_ne, bne_iff_ne, bne_eq_false_iff_eq, Bool.not_eq_true', Bool.not_eq_false', Int.not_lt, Int.not_le, ne_eq, reduceCtorEq, not_true_eq_false, not_false_eq_true, Decidable.not_not] at hc) <;> (try (exfalso; omega)) <;> (try refine W_norm rfl ?_))
              | refine W_skip ?_
              | refine W_exit ?_
              | refine W_block ?_
            )
            | refine seqK_n ?_
            | refine seqK_x ?_
            | refine blockK_e ?_
            | refine invK_x ?_)
          obtain ⟨b12, hb12⟩ : ∃ b, b = al := ⟨_, rfl⟩
          subst hb12
          rw [show ((A.length : Int) - 1).toNat = A.length - 1 by omega] at hs
          refine W_loopB [14, 68, 69, 70, 71, 72, 73, 74, 75, 76, 77, 78, 79, 80, 81, 82, 83, 84, 85, 86, 87, 88, 89, 90, 91, 92, 93] [0, 1, 2, 3, 4, 5, 6, 7, 8, 9, 10, 11, 12, 13, 14, 15, 16, 17, 18, 19, 20, 21, 22, 23, 24, 25, 26, 27, 28, 29, 30, 31, 32, 33, 34, 35, 36, 37, 38, 39, 40, 41, 42, 43, 44, 45, 46, 47, 48, 49, 50, 51, 52, 53, 54, 55, 56, 57, 58, 59, 60, 61, 62, 63, 64, 65, 66, 67, 68, 69, 70, 71, 72, 73, 74, 75, 76, 77, 78, 79, 80, 81, 82, 83, 84, 85, 86, 87, 88, 89, 90, 91, 92, 93, 94, 95, 96, 97, 98, 99] (fun n' sl h' => ∃ (k : Nat), sl = [(68, .sc (.int .i64 (k : Int)))] ∧ n' = A.length - k ∧ k ≤ A.length ∧ Sep (R.add ca) ([(b12, .cells 58 .own [.int .i64 (lastB A (v.x, v.y) k).1, .int .i64 (lastB A (v.x, v.y) k).2])] :: vwO id lv mk v :: M) h') ?_ ?_
          · refine ⟨_, _, ⟨0, rfl, rfl, Nat.zero_le _, hs⟩, EnvB.of rfl⟩
          clear hs
          rintro _ _ us _ h6 ⟨k, rfl, rfl, hk, hs⟩ he
          refine W_spell he rfl ?_
          clear he
          unfold m13_l23
          by_cases hlt2 : k < A.length
          · have hik := hin k hlt2
            repeat' (first
              | (refine K_ops ?_; first
                | refine W_fastB rfl ?_
                | refine W_nil ?_
                | (refine K_guard ?_; first
                  | refine W_guard_on rfl ?_
                  | refine W_guard_off rfl rfl (W_norm rfl ?_)
                )
                | (refine K_call ?_; first
                  | (refine W_callsN 36 rfl (w36 (A.getD (k : Int).toNat spotE.dflt) (v.x, v.y) _) rfl ?_; rintro _ h7 ⟨rfl, t⟩; replace hs := hs.call t; try simp only [cell_back, attr_back, List.set_cons_zero, List.set_cons_succ, List.eraseIdx_cons_succ, List.eraseIdx_zero, List.tail_cons, List.nil_append, List.cons_append] at hs; refine W_norm rfl ?_)
                )
                | (refine K_bin ?_; first
                  | (refine W_add rfl rfl (IntWalk.i64_in _ (by first | omega | (simp only [List.length_set, List.length_append, List.length_take, List.length_drop, List.length_replicate, List.length_cons, List.length_nil, decs_length, List.length_map]; omega))) ?_; refine W_norm rfl ?_)
                )
                | (refine K_pick ?_; first
                  | refine W_pick_t rfl rfl (W_norm rfl ?_)
                  | refine W_pick_f rfl rfl (W_norm rfl ?_)
                )
                | (refine K_index ?_; first
                  | (refine W_indexR rfl rfl (by assumption) rfl ⟨(by first | omega | (simp only [List.length_set, List.length_append, List.length_take, List.length_drop, List.length_replicate, List.length_cons, List.length_nil, decs_length, List.length_map]; omega)), (by first | omega | (simp only [List.length_set, List.length_append, List.length_take, List.length_drop, List.length_replicate, List.length_cons, List.length_nil, decs_length, List.length_map]; omega))⟩ ?_; intro _ _ _; refine W_norm rfl ?_)
                )
                | (refine K_load ?_; first
                  | (refine W_loadRA hs rfl (by assumption) rfl ?_; refine W_norm rfl ?_)
                  | (refine W_loadCA hs 0 rfl rfl rfl ?_; refine W_norm rfl ?_)
                  | (refine W_loadCA hs 2 rfl rfl rfl ?_; refine W_norm rfl ?_)
                )
                | (refine K_store ?_; first
                  | (refine W_storeC hs 0 rfl rfl rfl rfl (by first | decide | assumption) rfl rfl ?_; clear hs; intro _ hs; try simp only [cell_back, attr_back, List.set_cons_zero, List.set_cons_succ, List.eraseIdx_cons_succ, List.eraseIdx_zero, List.tail_cons, List.nil_append, List.cons_append] at hs; refine W_norm rfl ?_)
                  | (refine W_storeC hs 1 rfl rfl rfl rfl (by first | decide | assumption) rfl rfl ?_; clear hs; intro _ hs; try simp only [cell_back, attr_back, List.set_cons_zero, List.set_cons_succ, List.eraseIdx_cons_succ, List.eraseIdx_zero, List.tail_cons, List.nil_append, List.cons_append] at hs; refine W_norm rfl ?_)
                )
                | (refine W_allocS hs ?_; clear hs; intro al _ hs; try simp only [cell_back, attr_back, List.set_cons_zero, List.set_cons_succ, List.eraseIdx_cons_succ, List.eraseIdx_zero, List.tail_cons, List.nil_append, List.cons_append] at hs; refine W_norm rfl ?_)
              )
              | (refine K_code ?_; first
                | refine W_seq ?_
                | refine W_ops ?_
                | refine W_cond_f rfl ?_
                | (refine W_cond rfl (fun hc => ?_) (fun hc => ?_) <;> (try rw [hc]) <;> (try simp only [decide_eq_true_eq, decide_eq_false_iff_not, beq_iff_eq, beq_eq_false_iff_ne, bne_iff_ne, bne_eq_false_iff_eq, Bool.not_eq_true', Bool.not_eq_false', Int.not_lt, Int.not_le, ne_eq, reduceCtorEq, not_true_eq_false, not_false_eq_true, Decidable.not_not] at hc) <;> (try (exfalso; omega)) <;> (try refine W_norm rfl ?_))
                | refine W_skip ?_
                | refine W_block ?_
                | refine W_draw rfl ?_
              )
              | refine seqK_n ?_
              | refine blockK_n ?_
              | refine invK_n ?_)
            · rw [Int.toNat_natCast] at hc
              simp only [Int.toNat_natCast] at hs
              have e := lastB_hit (p := (v.x, v.y)) hlt2 hc
              refine ⟨_, ?_, _, ⟨k + 1, rfl, rfl, ?_, ?_⟩, EnvB.of rfl⟩
              · omega
              · omega
              · rw [e]; exact hs.drop 0
            · rw [Int.toNat_natCast] at hc
              have e := lastB_miss (p := (v.x, v.y)) hlt2 hc
              refine ⟨_, ?_, _, ⟨k + 1, rfl, rfl, ?_, ?_⟩, EnvB.of rfl⟩
              · omega
              · omega
              · rw [e]; exact hs.drop 0
          · obtain rfl : k = A.length := by omega
            have hpk := lastB_end (p := (v.x, v.y)) hal0
            have hik := inV_lt ok.l (hAin _ (pickB_mem hpk))
            repeat' (first
              | (refine K_ops ?_; first
                | refine W_fastB rfl ?_
                | refine W_nil ?_
                | (refine K_call ?_; first
                  | (refine W_callsN 12 rfl (w12 (hs.drop 0) hVm ok (x := (lastB A (v.x, v.y) A.length).1) (y := (lastB A (v.x, v.y) A.length).2) (by omega) (by omega)) rfl ?_; rintro _ h7 ⟨rfl, hs⟩; refine W_norm rfl ?_)
                )
                | (refine K_load ?_; first
                  | (refine W_loadC hs 0 rfl rfl rfl ?_; refine W_norm rfl ?_)
                )
              )
              | (refine K_code ?_; first
                | refine W_seq ?_
                | refine W_ops ?_
                | (refine W_cond rfl (fun hc => ?_) (fun hc => ?_) <;> (try rw [hc]) <;> (try simp only [decide_eq_true_eq, decide_eq_false_iff_not, beq_iff_eq, beq_eq_false_iff_ne, bne_iff_ne, bne_eq_false_iff_eq, Bool.not_eq_true', Bool.not_eq_false', Int.not_lt, Int.not_le, ne_eq, reduceCtorEq, not_true_eq_false, not_false_eq_true, Decidable.not_not] at hc) <;> (try (exfalso; omega)) <;> (try refine W_norm rfl ?_))
                | refine W_ret ?_
                | refine W_exit ?_
              )
              | refine seqK_n ?_
              | refine seqK_x ?_
              | refine blockK_e ?_
              | refine invK_x ?_
              | (refine fnK_r rfl ?_; try dsimp only [gd_z, gd_s]))
            have e : pickL A (v.x, v.y) true = some (lastB A (v.x, v.y) A.length) := hpk
            rw [e]
            exact ⟨_, rfl, rfl, hs.unadd⟩
  · have ef : findR v q back = (v, 1) := by unfold findR; rw [if_neg h32]
    rw [ef]
    refine W_enter d13 ?_
    show W _ (.code m13_code [.sc (.ptr id 0), .sc (.str q), bo back, undefA, undefA, undefA, undefA, undefA, undefA, undefA, undefA, undefA, undefA, undefA, undefA, undefA, undefA, undefA, undefA, undefA, undefA, undefA, undefA, undefA, undefA, undefA, undefA, undefA, undefA, undefA, undefA, undefA, undefA, undefA, undefA, undefA, undefA, undefA, undefA, undefA, undefA, undefA, undefA, undefA, undefA, undefA, undefA, undefA, undefA, undefA, undefA, undefA, undefA, undefA, undefA, undefA, undefA, undefA, undefA, undefA, undefA, undefA, undefA, undefA, undefA, undefA, undefA, undefA, undefA, undefA, undefA, undefA, undefA, undefA, undefA, undefA, undefA, undefA, undefA, undefA, undefA, undefA, undefA, undefA, undefA, undefA, undefA, undefA, undefA, undefA, undefA, undefA, undefA, undefA, undefA, undefA, undefA, undefA, undefA, undefA] _) _
    unfold m13_code
    repeat' (first
      | (refine K_ops ?_; first
        | refine W_fastB rfl ?_
        | refine W_nil ?_
        | (refine K_guard ?_; first
          | refine W_guard_on rfl ?_
          | refine W_guard_off rfl rfl (W_norm rfl ?_)
          | (refine W_guardF rfl (fun hc => ?_) (fun hc => ?_) <;> (try rw [hc]) <;> (try simp only [decide_eq_true_eq, decide_eq_false_iff_not, beq_iff_eq, beq_eq_false_iff_ne, bne_iff_ne, bne_eq_false_iff_eq, Bool.not_eq_true', Bool.not_eq_false', Int.not_lt, Int.not_le, ne_eq, reduceCtorEq, not_true_eq_false, not_false_eq_true, Decidable.not_not] at hc) <;> (try (exfalso; omega)) <;> (try refine W_norm rfl ?_))
        )
        | (refine K_call ?_; first
          | (refine W_callsN 33 rfl (w33 hs hl ok1) rfl ?_; rintro _ h ⟨rfl, rfl⟩; refine W_norm rfl ?_)
        )
        | (refine K_pick ?_; first
          | refine W_pick_t rfl rfl (W_norm rfl ?_)
          | refine W_pick_f rfl rfl (W_norm rfl ?_)
        )
      )
      | (refine K_code ?_; first
        | refine W_seq ?_
        | refine W_ops ?_
        | refine W_cond_t rfl ?_
        | refine W_cond_f rfl ?_
        | (refine W_cond rfl (fun hc => ?_) (fun hc => ?_) <;> (try rw [hc]) <;> (try simp only [decide_eq_true_eq, decide_eq_false_iff_not, beq_iff_eq, beq_eq_false_iff_ne, bne_iff_ne, bne_eq_false_iff_eq, Bool.not_eq_true', Bool.not_eq_false', Int.not_lt, Int.not_le, ne_eq, reduceCtorEq, not_true_eq_false, not_false_eq_true, Decidable.not_not] at hc) <;> (try (exfalso; omega)) <;> (try refine W_norm rfl ?_))
        | refine W_ret ?_
        | refine W_block ?_
      )
      | refine seqK_n ?_
      | refine seqK_r ?_
      | refine blockK_r ?_
      | (refine fnK_r rfl ?_; try dsimp only [gd_z, gd_s]))
    all_goals exact ⟨_, rfl, rfl, hs⟩
end Go.Proofs.YtbkhjpclnfljbaaDoor
