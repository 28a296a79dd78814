/- Reflow, the reference: lines and places of a paragraph. CLNONE -/
import Derived.Test.YtllhbhhgihdakaaDoorJxW15g
import Derived.Test.YtllhbhhgihdakaaDoorJxW15r
import Derived.Test.YtllhbhhgihdakaaDoorJxW15bls
set_option linter.unusedSimpArgs false
set_option linter.unusedVariables false
set_option maxHeartbeats 4000000
set_option maxRecDepth 100000
namespace Go.Proofs.YtllhbhhgihdakaaDoor
open Go Go.Jx

def pairE : El (Int × Int) := ⟨2, fun p => [.int .i64 p.1, .int .i64 p.2], fun l => match l with | [.int _ a, .int _ b] => (a, b) | _ => (0, 0), (0, 0), fun _ => rfl, by decide, fun _ => rfl⟩
def posI (l : List (Nat × Nat)) : List (Int × Int) := l.map fun p => ((p.1 : Int), (p.2 : Int))
theorem posI_cons (p : Nat × Nat) (l : List (Nat × Nat)) : posI (p :: l) = ((p.1 : Int), (p.2 : Int)) :: posI l := rfl
theorem AccS.inPp {t : TypeId} {v : SV} {L : List (Int × Int)} {c : Hp} (p : AccS pairE t v L c) : SlR pairE (InP c) v L := p.1.inR fun _ k => k
theorem getD_set_self {α : Type} {L : List α} {J : Nat} {y d : α} (h : J < L.length) : (L.set J y).getD J d = y := by
  rw [List.getD_eq_getElem?_getD, List.getElem?_set_self h]; rfl
theorem getD_last {α : Type} {L : List α} {y d : α} {j : Int} (h : j = (L.length : Int)) : (L ++ [y]).getD j.toNat d = y := by
  subst h
  rw [Int.toNat_natCast, List.getD_eq_getElem?_getD]; simp

theorem sep_empty2 {R : Ro} {a b c : Hp} {h : Heap} (s : Sep R [a, b, c] h) : Sep R [a, b, []] h := s.sublist (by simp)
theorem AccS.at0 {t : TypeId} {L : List LnH} {id n : Nat} {kd : Kind} (hk : kd ≠ .ro) (hn : L.length = n) : AccS lnE t (.slice id 0 n n) L [(id, .cells t kd (L.flatMap lnE.enc))] := AccS.again hk hn
theorem posGo_new {w : Nat} {n k : Nat} {c : Cell} {cs : List Cell} (h : (c.w = 1 ∧ n = w - 1) ∨ n = w) : posGo w n k (c :: cs) = (0, k + 1) :: posGo w 1 (k + 1) cs := by rw [posGo, if_pos h]
theorem posGo_old {w : Nat} {n k : Nat} {c : Cell} {cs : List Cell} (h : ¬((c.w = 1 ∧ n = w - 1) ∨ n = w)) : posGo w n k (c :: cs) = (n, k) :: posGo w (n + 1) k cs := by rw [posGo, if_neg h]
theorem w26 {l : LnH} {L : List Cell} {h : Heap} (hv : Len l.v L.length) (hl : L.length ≤ 10000000000) : Wc DD 26 [.agg (lnE.enc l)] h fun v h' => v = i64 (countL ⟨L, l.j, l.s⟩ : Nat) ∧ Sep (Now h) [] h' := by
  have hs := Sep.entry h
  obtain ⟨v, j, s⟩ := l
  refine W_enter d26 ?_
  show W _ (.code m26_code [.agg (lnE.enc ⟨v, j, s⟩), undefA, undefA, undefA, undefA, undefA, undefA, undefA, undefA, undefA, undefA, undefA, undefA, undefA, undefA, undefA, undefA, undefA, undefA, undefA] _) _
  unfold m26_code
  cases j <;> cases s
  · repeat' (first
      | (refine K_ops ?_; first
        | refine W_fastB rfl ?_
        | refine W_nil ?_
        | (refine K_guard ?_; first
          | refine W_guard_off rfl rfl (W_norm rfl ?_)
        )
        | (refine W_lenL rfl (by first | assumption | exact SlR.ln (by assumption) | exact AccS.ln (by assumption) | exact OwnS.ln (by assumption) | exact VwO.ln (by assumption) | exact OwnP.ln (by assumption) | exact Len.sl) ?_; refine W_norm rfl ?_)
        | (refine K_pick ?_; first
          | refine W_pick_f rfl rfl (W_norm rfl ?_)
        )
        | (refine K_load ?_; first
          | (refine W_loadC hs 0 rfl rfl rfl ?_; refine W_norm rfl ?_)
        )
        | (refine W_boxS hs rfl rfl ?_; clear hs; intro bx _ hs; try simp only [cell_back, attr_back, List.set_cons_zero, List.set_cons_succ, List.eraseIdx_cons_succ, List.eraseIdx_zero, List.tail_cons, List.nil_append, List.cons_append] at hs; refine W_norm rfl ?_)
      )
      | (refine K_code ?_; first
        | refine W_seq ?_
        | refine W_ops ?_
        | refine W_cond_f rfl ?_
        | refine W_skip ?_
        | refine W_ret ?_
      )
      | refine seqK_n ?_
      | (refine fnK_r rfl ?_; try dsimp only [gd_z, gd_s]))
    exact ⟨_, rfl, rfl, hs.drop 0⟩
  · repeat' (first
      | (refine K_ops ?_; first
        | refine W_fastB rfl ?_
        | refine W_nil ?_
        | (refine K_guard ?_; first
          | refine W_guard_off rfl rfl (W_norm rfl ?_)
        )
        | (refine W_lenL rfl (by first | assumption | exact SlR.ln (by assumption) | exact AccS.ln (by assumption) | exact OwnS.ln (by assumption) | exact VwO.ln (by assumption) | exact OwnP.ln (by assumption) | exact Len.sl) ?_; refine W_norm rfl ?_)
        | (refine K_pick ?_; first
          | refine W_pick_f rfl rfl (W_norm rfl ?_)
        )
        | (refine K_load ?_; first
          | (refine W_loadC hs 0 rfl rfl rfl ?_; refine W_norm rfl ?_)
        )
        | (refine W_boxS hs rfl rfl ?_; clear hs; intro bx _ hs; try simp only [cell_back, attr_back, List.set_cons_zero, List.set_cons_succ, List.eraseIdx_cons_succ, List.eraseIdx_zero, List.tail_cons, List.nil_append, List.cons_append] at hs; refine W_norm rfl ?_)
      )
      | (refine K_code ?_; first
        | refine W_seq ?_
        | refine W_ops ?_
        | refine W_cond_f rfl ?_
        | refine W_skip ?_
        | refine W_ret ?_
      )
      | refine seqK_n ?_
      | (refine fnK_r rfl ?_; try dsimp only [gd_z, gd_s]))
    exact ⟨_, rfl, rfl, hs.drop 0⟩
  · repeat' (first
      | (refine K_ops ?_; first
        | refine W_fastB rfl ?_
        | refine W_nil ?_
        | (refine K_guard ?_; first
          | refine W_guard_on rfl ?_
          | refine W_guard_off rfl rfl (W_norm rfl ?_)
        )
        | (refine W_lenL rfl (by first | assumption | exact SlR.ln (by assumption) | exact AccS.ln (by assumption) | exact OwnS.ln (by assumption) | exact VwO.ln (by assumption) | exact OwnP.ln (by assumption) | exact Len.sl) ?_; refine W_norm rfl ?_)
        | (refine K_pick ?_; first
          | refine W_pick_t rfl rfl (W_norm rfl ?_)
          | refine W_pick_f rfl rfl (W_norm rfl ?_)
        )
        | (refine K_load ?_; first
          | (refine W_loadC hs 0 rfl rfl rfl ?_; refine W_norm rfl ?_)
        )
        | (refine W_boxS hs rfl rfl ?_; clear hs; intro bx _ hs; try simp only [cell_back, attr_back, List.set_cons_zero, List.set_cons_succ, List.eraseIdx_cons_succ, List.eraseIdx_zero, List.tail_cons, List.nil_append, List.cons_append] at hs; refine W_norm rfl ?_)
      )
      | (refine K_code ?_; first
        | refine W_seq ?_
        | refine W_ops ?_
        | refine W_cond_f rfl ?_
        | refine W_skip ?_
        | refine W_ret ?_
      )
      | refine seqK_n ?_
      | (refine fnK_r rfl ?_; try dsimp only [gd_z, gd_s]))
    exact ⟨_, rfl, rfl, hs.drop 0⟩
  · repeat' (first
      | (refine K_ops ?_; first
        | refine W_fastB rfl ?_
        | refine W_nil ?_
        | (refine K_guard ?_; first
          | refine W_guard_on rfl ?_
        )
        | (refine W_lenL rfl (by first | assumption | exact SlR.ln (by assumption) | exact AccS.ln (by assumption) | exact OwnS.ln (by assumption) | exact VwO.ln (by assumption) | exact OwnP.ln (by assumption) | exact Len.sl) ?_; refine W_norm rfl ?_)
        | (refine K_bin ?_; first
          | (refine W_sub rfl rfl (IntWalk.i64_in _ (by first | omega | (simp only [List.length_set, List.length_append, List.length_take, List.length_drop, List.length_replicate, List.length_cons, List.length_nil, decs_length, List.length_map]; omega))) ?_; refine W_norm rfl ?_)
        )
        | (refine K_pick ?_; first
          | refine W_pick_t rfl rfl (W_norm rfl ?_)
        )
        | (refine K_load ?_; first
          | (refine W_loadC hs 0 rfl rfl rfl ?_; refine W_norm rfl ?_)
        )
        | (refine W_boxS hs rfl rfl ?_; clear hs; intro bx _ hs; try simp only [cell_back, attr_back, List.set_cons_zero, List.set_cons_succ, List.eraseIdx_cons_succ, List.eraseIdx_zero, List.tail_cons, List.nil_append, List.cons_append] at hs; refine W_norm rfl ?_)
      )
      | (refine K_code ?_; first
        | refine W_seq ?_
        | refine W_ops ?_
        | (refine W_cond rfl (fun hc => ?_) (fun hc => ?_) <;> (try rw [hc]) <;> (try simp only [decide_eq_true_eq, decide_eq_false_iff_not, beq_iff_eq, beq_eq_false_iff_ne, bne_iff_ne, bne_eq_false_iff_eq, Bool.not_eq_true', Bool.not_eq_false', Int.not_lt, Int.not_le, ne_eq, reduceCtorEq, not_true_eq_false, not_false_eq_true, Decidable.not_not] at hc) <;> (try (exfalso; omega)) <;> (try refine W_norm rfl ?_))
        | refine W_skip ?_
        | refine W_ret ?_
      )
      | refine seqK_n ?_
      | (refine fnK_r rfl ?_; try dsimp only [gd_z, gd_s]))
    · refine ⟨_, rfl, ?_, hs.drop 0⟩
      congr 2
      show ((L.length : Int) - 1) = ((L.length - 1 : Nat) : Int)
      omega
    · refine ⟨_, rfl, ?_, hs.drop 0⟩
      congr 2
      show (L.length : Int) = ((L.length - 1 : Nat) : Int)
      omega
theorem w32 {c : Cell} {h : Heap} : Wc DD 32 [.agg (cellE.enc c)] h fun v h' => v = bo (decide (c = plC)) ∧ Sep (Now h) [] h' := by
  have hs := Sep.entry h
  refine W_enter d32 ?_
  show W _ (.code m32_code [.agg (cellE.enc c), undefA, undefA, undefA, undefA, undefA] _) _
  unfold m32_code
  repeat' (first
    | (refine K_ops ?_; first
      | refine W_fastB rfl ?_
      | refine W_nil ?_
      | (refine K_bin ?_; first
        | (refine W_eqE cellE rfl rfl rfl rfl cellE_fits ?_; refine W_norm rfl ?_)
      )
      | (refine K_load ?_; first
        | (refine W_loadCA hs 0 rfl rfl rfl ?_; refine W_norm rfl ?_)
      )
      | (refine W_boxS hs rfl rfl ?_; clear hs; intro bx _ hs; try simp only [cell_back, attr_back, List.set_cons_zero, List.set_cons_succ, List.eraseIdx_cons_succ, List.eraseIdx_zero, List.tail_cons, List.nil_append, List.cons_append] at hs; refine W_norm rfl ?_)
      | (refine W_buildN rfl ?_; refine W_norm rfl ?_)
    )
    | (refine K_code ?_; first
      | refine W_seq ?_
      | refine W_ops ?_
      | refine W_ret ?_
    )
    | refine seqK_n ?_
    | (refine fnK_r rfl ?_; try dsimp only [gd_z, gd_s]))
  all_goals exact ⟨_, rfl, rfl, hs.drop 0⟩

/-- A cell is put behind the last line's, and its place behind the places. -/
theorem w25_put {R : Ro} {v z : SV} {L : List Cell} {i n id : Nat} {kd : Kind} {X : List LnH} {j : Int} {A : List Cell} {Z : List (Int × Int)} {cz e : Hp} {h : Heap} {env : List AV} (hv : SlR cellE R v L) (hl : L.length ≤ 10000000000) (hlt : i < L.length) (hX : X.length = n) (hn : n ≤ i + 2) (hk : kd ≠ .ro) (hj0 : 0 ≤ j ∧ j < (n : Int)) (hA : A.length ≤ 400) (hZ : Z.length = i)
    (hq : AccS cellE 48 (X.getD j.toNat lnE.dflt).v A e) (hz : AccS pairE 67 z Z cz) (hs : Sep R [[(id, .cells 65 kd (X.flatMap lnE.enc))], cz, e] h)
    (he : EnvIs 117 [(0, .sc v), (6, .sc (.slice id 0 n n)), (7, .sc z), (8, .sc (.int .i64 (i : Int))), (9, .sc (.int .i64 j)), (10, .sc (.int .i64 (A.length : Int)))] env) :
    W DD (.code (.seq (.draw m25_r17) (.ops m25_r18)) env h) (fun x e' h' => x = .normal ∧ ∃ sl, (∃ (z' : SV) (cz' e2 : Hp) (X' : List LnH), sl = [(7, .sc z')] ∧ X'.length = n ∧ AccS cellE 48 (X'.getD j.toNat lnE.dflt).v (A ++ [L.getD (i : Int).toNat cellE.dflt]) e2 ∧ AccS pairE 67 z' (Z ++ [((A.length : Int), j)]) cz' ∧ Sep R [[(id, .cells 65 kd (X'.flatMap lnE.enc))], cz', e2] h') ∧ EnvB env [7, 71, 72, 73, 74, 75, 76, 77, 78, 79, 80, 81, 82, 83, 84, 85, 86, 87, 88, 89, 90, 91] [0, 1, 2, 3, 4, 5, 6, 7, 8, 9, 10, 11, 12, 13, 14, 15, 16, 17, 18, 19, 20, 21, 22, 23, 24, 25, 26, 27, 28, 29, 30, 31, 32, 33, 34, 35, 36, 37, 38, 39, 40, 41, 42, 43, 44, 45, 46, 47, 48, 49, 50, 51, 52, 53, 54, 55, 56, 57, 58, 59, 60, 61, 62, 63, 64, 65, 66, 67, 68, 69, 70, 71, 72, 73, 74, 75, 76, 77, 78, 79, 80, 81, 82, 83, 84, 85, 86, 87, 88, 89, 90, 91, 92, 93, 94, 95, 96, 97, 98, 99, 100, 101, 102, 103, 104, 105, 106, 107, 108, 109, 110, 111, 112, 113, 114, 115, 116] sl e') := by
  obtain ⟨us, rfl⟩ := he.list
  have hjl : j.toNat < X.length := by omega
  repeat' (first
    | (refine K_ops ?_; first
      | refine W_fastB rfl ?_
      | refine W_nil ?_
      | (refine K_index ?_; first
        | (refine W_indexO rfl rfl ⟨(by first | omega | (simp only [List.length_set, List.length_append, List.length_take, List.length_drop, List.length_replicate, List.length_cons, List.length_nil, decs_length, List.length_map]; omega)), (by first | omega | (simp only [List.length_set, List.length_append, List.length_take, List.length_drop, List.length_replicate, List.length_cons, List.length_nil, decs_length, List.length_map]; omega))⟩ ?_; refine W_norm rfl ?_)
        | (refine W_indexR rfl rfl (by assumption) rfl ⟨(by first | omega | (simp only [List.length_set, List.length_append, List.length_take, List.length_drop, List.length_replicate, List.length_cons, List.length_nil, decs_length, List.length_map]; omega)), (by first | omega | (simp only [List.length_set, List.length_append, List.length_take, List.length_drop, List.length_replicate, List.length_cons, List.length_nil, decs_length, List.length_map]; omega))⟩ ?_; intro _ _ _; refine W_norm rfl ?_)
      )
      | (refine K_load ?_; first
        | (refine W_loadRA hs rfl (by assumption) rfl ?_; refine W_norm rfl ?_)
        | (refine W_loadO hs 0 rfl rfl rfl (by first | omega | (simp only [List.length_set, List.length_append, List.length_take, List.length_drop, List.length_replicate, List.length_cons, List.length_nil, decs_length, List.length_map]; omega)) rfl ?_; refine W_norm rfl ?_)
      )
      | (refine K_store ?_; first
        | (refine W_storeOF hs 1 rfl rfl rfl rfl rfl (by first | omega | (simp only [List.length_set, List.length_append, List.length_take, List.length_drop, List.length_replicate, List.length_cons, List.length_nil, decs_length, List.length_map]; omega)) (by first | decide | assumption) rfl rfl rfl rfl ?_; intro _ hs; try simp only [cell_back, attr_back, List.set_cons_zero, List.set_cons_succ, List.eraseIdx_cons_succ, List.eraseIdx_zero, List.tail_cons, List.nil_append, List.cons_append] at hs; refine W_norm rfl ?_)
      )
      | (refine K_bslice ?_; first
        | (refine W_buildS1 cellE hs rfl rfl ?_; intro _ _ _ _ hs; try simp only [cell_back, attr_back, List.set_cons_zero, List.set_cons_succ, List.eraseIdx_cons_succ, List.eraseIdx_zero, List.tail_cons, List.nil_append, List.cons_append] at hs; refine W_norm rfl ?_)
        | (refine W_appB1 pairE hs 2 rfl rfl rfl (by assumption) rfl rfl rfl ⟨by decide, (by first | omega | (simp only [List.length_set, List.length_append, List.length_take, List.length_drop, List.length_replicate, List.length_cons, List.length_nil, decs_length, List.length_map]; omega))⟩ ?_; intro _ _ _ _ _ hs; try simp only [cell_back, attr_back, List.set_cons_zero, List.set_cons_succ, List.eraseIdx_cons_succ, List.eraseIdx_zero, List.tail_cons, List.nil_append, List.cons_append] at hs; refine W_norm rfl ?_)
      )
      | (refine K_append ?_; first
        | (refine W_appS hs 3 rfl rfl (by assumption) rfl (by first | assumption | exact SlR.now hs (by assumption) | exact AccS.now (by assumption) hs (by simp) | exact OwnS.now (by assumption) hs (by simp)) rfl ⟨by decide, (by first | omega | (simp only [List.length_set, List.length_append, List.length_take, List.length_drop, List.length_replicate, List.length_cons, List.length_nil, decs_length, List.length_map]; omega))⟩ ?_; intro _ _ _ _ hs; try simp only [cell_back, attr_back, List.set_cons_zero, List.set_cons_succ, List.eraseIdx_cons_succ, List.eraseIdx_zero, List.tail_cons, List.nil_append, List.cons_append] at hs; refine W_norm rfl ?_)
      )
      | (refine W_buildN rfl ?_; refine W_norm rfl ?_)
    )
    | (refine K_code ?_; first
      | refine W_seq ?_
      | refine W_ops ?_
      | refine W_draws ?_
    )
    | refine W_dstep rfl ?_
    | refine ⟨rfl, fun rc hrec => ?_⟩
    | (refine W_dnilS (by simp only [List.reverse_cons, List.reverse_nil, List.nil_append, List.cons_append]; rfl) (by repeat' first | exact CL_nil _ _ | refine CL_skip rfl ?_ | refine CL_none (by assumption) rfl ?_ | refine CL_load (by assumption) rfl (by first | exact trivial | (repeat' first | exact trivial | refine ⟨⟨_, rfl, (by refine (congrArg (fun x => Heap.get x _) (RecIs.hh (by assumption))).trans ?_; first | rfl | exact PtR.same_get (by assumption) (by assumption) (by assumption) | exact Sep.same_get (by assumption) (by assumption) 0 0 rfl rfl | exact Sep.same_get (by assumption) (by assumption) 0 1 rfl rfl | exact Sep.same_get (by assumption) (by assumption) 0 2 rfl rfl | exact Sep.same_get (by assumption) (by assumption) 0 3 rfl rfl | exact Sep.same_get (by assumption) (by assumption) 0 4 rfl rfl | exact Sep.same_get (by assumption) (by assumption) 1 0 rfl rfl | exact Sep.same_get (by assumption) (by assumption) 1 1 rfl rfl | exact Sep.same_get (by assumption) (by assumption) 1 2 rfl rfl | exact Sep.same_get (by assumption) (by assumption) 1 3 rfl rfl | exact Sep.same_get (by assumption) (by assumption) 1 4 rfl rfl | exact Sep.same_get (by assumption) (by assumption) 2 0 rfl rfl | exact Sep.same_get (by assumption) (by assumption) 2 1 rfl rfl | exact Sep.same_get (by assumption) (by assumption) 2 2 rfl rfl | exact Sep.same_get (by assumption) (by assumption) 2 3 rfl rfl | exact Sep.same_get (by assumption) (by assumption) 2 4 rfl rfl | exact Sep.same_get (by assumption) (by assumption) 3 0 rfl rfl | exact Sep.same_get (by assumption) (by assumption) 3 1 rfl rfl | exact Sep.same_get (by assumption) (by assumption) 3 2 rfl rfl | exact Sep.same_get (by assumption) (by assumption) 3 3 rfl rfl | exact Sep.same_get (by assumption) (by assumption) 3 4 rfl rfl | exact Sep.same_get (by assumption) (by assumption) 4 0 rfl rfl | exact Sep.same_get (by assumption) (by assumption) 4 1 rfl rfl | exact Sep.same_get (by assumption) (by assumption) 4 2 rfl rfl | exact Sep.same_get (by assumption) (by assumption) 4 3 rfl rfl | exact Sep.same_get (by assumption) (by assumption) 4 4 rfl rfl)⟩, ?_⟩)) (by first | exact trivial | (repeat' first | exact trivial | refine ⟨⟨_, rfl, (by refine (congrArg (fun x => Heap.get x _) (RecIs.hh' (by assumption))).trans ?_; first | rfl | exact PtR.same_get (by assumption) (by assumption) (by assumption) | exact Sep.same_get (by assumption) (by assumption) 0 0 rfl rfl | exact Sep.same_get (by assumption) (by assumption) 0 1 rfl rfl | exact Sep.same_get (by assumption) (by assumption) 0 2 rfl rfl | exact Sep.same_get (by assumption) (by assumption) 0 3 rfl rfl | exact Sep.same_get (by assumption) (by assumption) 0 4 rfl rfl | exact Sep.same_get (by assumption) (by assumption) 1 0 rfl rfl | exact Sep.same_get (by assumption) (by assumption) 1 1 rfl rfl | exact Sep.same_get (by assumption) (by assumption) 1 2 rfl rfl | exact Sep.same_get (by assumption) (by assumption) 1 3 rfl rfl | exact Sep.same_get (by assumption) (by assumption) 1 4 rfl rfl | exact Sep.same_get (by assumption) (by assumption) 2 0 rfl rfl | exact Sep.same_get (by assumption) (by assumption) 2 1 rfl rfl | exact Sep.same_get (by assumption) (by assumption) 2 2 rfl rfl | exact Sep.same_get (by assumption) (by assumption) 2 3 rfl rfl | exact Sep.same_get (by assumption) (by assumption) 2 4 rfl rfl | exact Sep.same_get (by assumption) (by assumption) 3 0 rfl rfl | exact Sep.same_get (by assumption) (by assumption) 3 1 rfl rfl | exact Sep.same_get (by assumption) (by assumption) 3 2 rfl rfl | exact Sep.same_get (by assumption) (by assumption) 3 3 rfl rfl | exact Sep.same_get (by assumption) (by assumption) 3 4 rfl rfl | exact Sep.same_get (by assumption) (by assumption) 4 0 rfl rfl | exact Sep.same_get (by assumption) (by assumption) 4 1 rfl rfl | exact Sep.same_get (by assumption) (by assumption) 4 2 rfl rfl | exact Sep.same_get (by assumption) (by assumption) 4 3 rfl rfl | exact Sep.same_get (by assumption) (by assumption) 4 4 rfl rfl)⟩, ?_⟩)) ?_) ?_)
    | refine seqK_n ?_)
  refine ⟨rfl, _, ⟨_, _, _, _, rfl, ?_, ?_, (by assumption), hs.drop 0⟩, EnvB.of rfl⟩
  · rw [List.length_set]; exact hX
  · rw [getD_set_self hjl]; assumption

theorem w25 {v : SV} {L : List Cell} {w : Int} {h : Heap} (hv : SlR cellE (Now h) v L) (hl : L.length ≤ 10000000000) (hw : okW w) : Wc DD 25 [.sc v, i64 w] h fun x h' => ∃ u1 u2 c, x = .tup [.sc u1, .sc u2] ∧ Len u1 (linesP w.toNat L).length ∧ SlR pairE (InP c) u2 (posI (posGo w.toNat 0 0 L)) ∧ Sep (Now h) [c] h' := by
  have hs := Sep.entry h
  have hln := hv.ln
  obtain ⟨hw1, hw2⟩ := hw
  obtain ⟨N, rfl⟩ : ∃ N : Nat, w = (N : Int) := ⟨w.toNat, by omega⟩
  rw [Int.toNat_natCast]
  refine W_enter d25 ?_
  show W _ (.code m25_code [.sc v, i64 (N : Int), undefA, undefA, undefA, undefA, undefA, undefA, undefA, undefA, undefA, undefA, undefA, undefA, undefA, undefA, undefA, undefA, undefA, undefA, undefA, undefA, undefA, undefA, undefA, undefA, undefA, undefA, undefA, undefA, undefA, undefA, undefA, undefA, undefA, undefA, undefA, undefA, undefA, undefA, undefA, undefA, undefA, undefA, undefA, undefA, undefA, undefA, undefA, undefA, undefA, undefA, undefA, undefA, undefA, undefA, undefA, undefA, undefA, undefA, undefA, undefA, undefA, undefA, undefA, undefA, undefA, undefA, undefA, undefA, undefA, undefA, undefA, undefA, undefA, undefA, undefA, undefA, undefA, undefA, undefA, undefA, undefA, undefA, undefA, undefA, undefA, undefA, undefA, undefA, undefA, undefA, undefA, undefA, undefA, undefA, undefA, undefA, undefA, undefA, undefA, undefA, undefA, undefA, undefA, undefA, undefA, undefA, undefA, undefA, undefA, undefA, undefA, undefA, undefA, undefA, undefA] _) _
  unfold m25_code
  repeat' (first
    | (refine K_ops ?_; first
      | refine W_fastB rfl ?_
      | refine W_nil ?_
      | (refine K_bslice ?_; first
        | (refine W_buildS1 lnE hs rfl rfl ?_; clear hs; intro _ _ _ _ hs; try simp only [cell_back, attr_back, List.set_cons_zero, List.set_cons_succ, List.eraseIdx_cons_succ, List.eraseIdx_zero, List.tail_cons, List.nil_append, List.cons_append] at hs; refine W_norm rfl ?_)
      )
      | (refine W_buildN rfl ?_; refine W_norm rfl ?_)
    )
    | (refine K_code ?_; first
      | refine W_seq ?_
      | refine W_ops ?_
      | refine W_block ?_
    )
    | refine seqK_n ?_)
  rename_i v0 c0 h0 hacc0
  obtain ⟨id0, kd0, rfl, rfl, hk0⟩ := hacc0.pos (by simp)
  refine W_loopB [6, 7, 8, 9, 10, 14, 15, 16, 17, 18, 19, 20, 21, 22, 23, 24, 25, 26, 27, 28, 29, 30, 31, 32, 33, 34, 35, 36, 37, 38, 39, 40, 41, 42, 43, 44, 45, 46, 47, 48, 49, 50, 51, 52, 53, 54, 55, 56, 57, 58, 59, 60, 61, 62, 63, 64, 65, 66, 67, 68, 69, 70, 71, 72, 73, 74, 75, 76, 77, 78, 79, 80, 81, 82, 83, 84, 85, 86, 87, 88, 89, 90, 91] [0, 1, 2, 3, 4, 5, 6, 7, 8, 9, 10, 11, 12, 13, 14, 15, 16, 17, 18, 19, 20, 21, 22, 23, 24, 25, 26, 27, 28, 29, 30, 31, 32, 33, 34, 35, 36, 37, 38, 39, 40, 41, 42, 43, 44, 45, 46, 47, 48, 49, 50, 51, 52, 53, 54, 55, 56, 57, 58, 59, 60, 61, 62, 63, 64, 65, 66, 67, 68, 69, 70, 71, 72, 73, 74, 75, 76, 77, 78, 79, 80, 81, 82, 83, 84, 85, 86, 87, 88, 89, 90, 91, 92, 93, 94, 95, 96, 97, 98, 99, 100, 101, 102, 103, 104, 105, 106, 107, 108, 109, 110, 111, 112, 113, 114, 115, 116] (fun n' sl h' => ∃ (i id : Nat) (kd : Kind) (n : Nat) (XS : List LnH) (z : SV) (Z : List (Int × Int)) (A : List Cell) (cz e : Hp), sl = [(6, .sc (.slice id 0 n n)), (7, .sc z), (8, .sc (.int .i64 (i : Int)))] ∧ n' = L.length - i ∧ i ≤ L.length ∧ XS.length = n ∧ 0 < n ∧ n ≤ i + 1 ∧ kd ≠ .ro ∧ A.length ≤ N ∧ Z.length = i ∧ AccS cellE 48 (XS.getD ((n : Int) - 1).toNat lnE.dflt).v A e ∧ AccS pairE 67 z Z cz ∧ Hid ((n - 1) + (linesGo N A (L.drop i)).length = (linesP N L).length) ∧ Z ++ posI (posGo N A.length (n - 1) (L.drop i)) = posI (posGo N 0 0 L) ∧ Sep (Now h) [[(id, .cells 65 kd (XS.flatMap lnE.enc))], cz, e] h') ?_ ?_
  · refine ⟨_, _, ⟨0, id0, kd0, _, [lnE.dec [.nils, .bool false, .bool false]], .nils, [], [], [], [], rfl, rfl, Nat.zero_le _, rfl, Nat.one_pos, Nat.le_refl _, hk0, Nat.zero_le _, rfl, AccS.nil _, AccS.nil _, (Nat.zero_add _), rfl, hs.nil.nil.reord (fun a => by simp only [List.flatten_cons, List.flatten_nil, List.count_append, List.count_nil, hpOf_append, hpOf_cons, hpOf_nil, List.append_nil, List.eraseIdx_cons_succ, List.eraseIdx_zero, List.tail_cons] <;> omega)⟩, EnvB.of rfl⟩
  clear hs
  rintro _ _ us _ h2 ⟨i, id, kd, n, XS, z, Z, A, cz, e, rfl, rfl, hi, hX, hn, hni, hk, hA, hZ, hq, hz, heL, heP, hs⟩ he
  refine W_spell he rfl ?_
  clear he
  unfold m25_l4
  have hql := hq.ln
  by_cases hlt : i < L.length
  · have hd := drop_getD hlt
    have heL' := heL.out
    rw [hd] at heL' heP
    by_cases h12 : (L.getD (i : Int).toNat cellE.dflt).w = 1 ∧ A.length = N - 1
    · rw [linesGo_short h12.1 h12.2, List.length_cons] at heL'
      rw [posGo_new (.inl h12)] at heP
      repeat' (first
        | (refine K_ops ?_; first
          | refine W_fastB rfl ?_
          | refine W_nil ?_
          | (refine W_appB1 lnE hs 0 rfl rfl rfl (AccS.at0 hk (by simp only [List.length_set]; exact hX)) rfl rfl rfl ⟨by decide, by simp only [List.length_set]; omega⟩ ?_; clear hs; intro _ _ _ _ _ hs; try simp only [cell_back, attr_back, List.set_cons_zero, List.set_cons_succ, List.eraseIdx_cons_succ, List.eraseIdx_zero, List.tail_cons, List.nil_append, List.cons_append] at hs; refine W_norm rfl ?_)
          | (refine K_guard ?_; first
            | refine W_guard_on rfl ?_
            | (refine W_guardT rfl (fun hc => ?_) (fun hc => ?_) <;> (try rw [hc]) <;> (try simp only [decide_eq_true_eq, decide_eq_false_iff_not, beq_iff_eq, beq_eq_false_iff_ne, bne_iff_ne, bne_eq_false_iff_eq, Bool.not_eq_true', Bool.not_eq_false', Int.not_lt, Int.not_le, ne_eq, reduceCtorEq, not_true_eq_false, not_false_eq_true, Decidable.not_not] at hc) <;> (try (exfalso; omega)) <;> (try refine W_norm rfl ?_))
          )
          | (refine W_lenL rfl (by first | assumption | exact SlR.ln (by assumption) | exact AccS.ln (by assumption) | exact OwnS.ln (by assumption) | exact VwO.ln (by assumption) | exact OwnP.ln (by assumption) | exact Len.sl) ?_; refine W_norm rfl ?_)
          | (refine K_bin ?_; first
            | (refine W_add rfl rfl (IntWalk.i64_in _ (by first | omega | (simp only [List.length_set, List.length_append, List.length_take, List.length_drop, List.length_replicate, List.length_cons, List.length_nil, decs_length, List.length_map]; omega))) ?_; refine W_norm rfl ?_)
            | (refine W_sub rfl rfl (IntWalk.i64_in _ (by first | omega | (simp only [List.length_set, List.length_append, List.length_take, List.length_drop, List.length_replicate, List.length_cons, List.length_nil, decs_length, List.length_map]; omega))) ?_; refine W_norm rfl ?_)
          )
          | (refine K_pick ?_; first
            | refine W_pick_t rfl rfl (W_norm rfl ?_)
          )
          | (refine K_index ?_; first
            | (refine W_indexO rfl rfl ⟨(by first | omega | (simp only [List.length_set, List.length_append, List.length_take, List.length_drop, List.length_replicate, List.length_cons, List.length_nil, decs_length, List.length_map]; omega)), (by first | omega | (simp only [List.length_set, List.length_append, List.length_take, List.length_drop, List.length_replicate, List.length_cons, List.length_nil, decs_length, List.length_map]; omega))⟩ ?_; refine W_norm rfl ?_)
            | (refine W_indexR rfl rfl (by assumption) rfl ⟨(by first | omega | (simp only [List.length_set, List.length_append, List.length_take, List.length_drop, List.length_replicate, List.length_cons, List.length_nil, decs_length, List.length_map]; omega)), (by first | omega | (simp only [List.length_set, List.length_append, List.length_take, List.length_drop, List.length_replicate, List.length_cons, List.length_nil, decs_length, List.length_map]; omega))⟩ ?_; intro _ _ _; refine W_norm rfl ?_)
          )
          | (refine K_load ?_; first
            | (refine W_loadRF hs rfl (by assumption) rfl ?_; refine W_norm rfl ?_)
            | (refine W_loadO hs 0 rfl rfl rfl (by first | omega | (simp only [List.length_set, List.length_append, List.length_take, List.length_drop, List.length_replicate, List.length_cons, List.length_nil, decs_length, List.length_map]; omega)) rfl ?_; refine W_norm rfl ?_)
          )
          | (refine K_store ?_; first
            | (refine W_storeOF hs 0 rfl rfl rfl rfl rfl (by first | omega | (simp only [List.length_set, List.length_append, List.length_take, List.length_drop, List.length_replicate, List.length_cons, List.length_nil, decs_length, List.length_map]; omega)) (by first | decide | assumption) rfl rfl rfl rfl ?_; clear hs; intro _ hs; try simp only [cell_back, attr_back, List.set_cons_zero, List.set_cons_succ, List.eraseIdx_cons_succ, List.eraseIdx_zero, List.tail_cons, List.nil_append, List.cons_append] at hs; refine W_norm rfl ?_)
          )
          | (refine K_bslice ?_; first
            | (refine W_appB1 cellE hs 2 rfl rfl rfl (by assumption) rfl rfl rfl ⟨by decide, (by first | omega | (simp only [List.length_set, List.length_append, List.length_take, List.length_drop, List.length_replicate, List.length_cons, List.length_nil, decs_length, List.length_map]; omega))⟩ ?_; clear hs; intro _ _ _ _ _ hs; try simp only [cell_back, attr_back, List.set_cons_zero, List.set_cons_succ, List.eraseIdx_cons_succ, List.eraseIdx_zero, List.tail_cons, List.nil_append, List.cons_append] at hs; refine W_norm rfl ?_)
          )
          | (refine W_buildN rfl ?_; refine W_norm rfl ?_)
        )
        | (refine K_code ?_; first
          | (refine W_midB (a := .seq (.ops m25_r12) (.cond (.t 60) (.seq (.ops m25_r13) (.seq (.ops m25_r14) (.seq (.ops m25_r15) (.ops m25_r16)))) .skip)) [6, 9, 10, 58, 59, 60, 61, 62, 63, 64, 65, 66, 67, 68, 69, 70] [0, 1, 2, 3, 4, 5, 6, 7, 8, 9, 10, 11, 12, 13, 14, 15, 16, 17, 18, 19, 20, 21, 22, 23, 24, 25, 26, 27, 28, 29, 30, 31, 32, 33, 34, 35, 36, 37, 38, 39, 40, 41, 42, 43, 44, 45, 46, 47, 48, 49, 50, 51, 52, 53, 54, 55, 56, 57, 58, 59, 60, 61, 62, 63, 64, 65, 66, 67, 68, 69, 70, 71, 72, 73, 74, 75, 76, 77, 78, 79, 80, 81, 82, 83, 84, 85, 86, 87, 88, 89, 90, 91, 92, 93, 94, 95, 96, 97, 98, 99, 100, 101, 102, 103, 104, 105, 106, 107, 108, 109, 110, 111, 112, 113, 114, 115, 116] (fun sl h' => ∃ (id2 : Nat) (kd2 : Kind) (n2 : Nat) (X2 : List LnH) (j2 : Int) (A2 : List Cell) (e2 : Hp), sl = [(6, .sc (.slice id2 0 n2 n2)), (9, .sc (.int .i64 j2)), (10, .sc (.int .i64 (A2.length : Int)))] ∧ X2.length = n2 ∧ 0 < n2 ∧ n2 ≤ i + 2 ∧ kd2 ≠ .ro ∧ j2 = (n2 : Int) - 1 ∧ A2.length < N ∧ AccS cellE 48 (X2.getD j2.toNat lnE.dflt).v A2 e2 ∧ Hid ((n2 - 1) + (linesGo N (A2 ++ [L.getD (i : Int).toNat cellE.dflt]) (L.drop (i + 1))).length = (linesP N L).length) ∧ Z ++ posI ((A2.length, n2 - 1) :: posGo N (A2.length + 1) (n2 - 1) (L.drop (i + 1))) = posI (posGo N 0 0 L) ∧ Sep (Now h) [[(id2, .cells 65 kd2 (X2.flatMap lnE.enc))], cz, e2] h') ?_ ?_)
          | refine W_seq ?_
          | refine W_ops ?_
          | (refine W_cond rfl (fun hc => ?_) (fun hc => ?_) <;> (try rw [hc]) <;> (try simp only [decide_eq_true_eq, decide_eq_false_iff_not, beq_iff_eq, beq_eq_false_iff_ne, bne_iff_ne, bne_eq_false_iff_eq, Bool.not_eq_true', Bool.not_eq_false', Int.not_lt, Int.not_le, ne_eq, reduceCtorEq, not_true_eq_false, not_false_eq_true, Decidable.not_not] at hc) <;> (try (exfalso; omega)) <;> (try refine W_norm rfl ?_))
          | refine W_skip ?_
          | refine W_block ?_
        )
        | refine seqK_n ?_
        | refine midK_n ?_)
      · obtain ⟨id2, kd2, rfl, rfl, hk2⟩ := (by assumption : AccS lnE 65 _ _ _).pos (by simp)
        refine ⟨_, ⟨id2, kd2, _, _, _, [], [], rfl, rfl, ?_, ?_, hk2, ?_, ?_, ?_, ?_, ?_, sep_empty2 hs⟩, EnvB.of rfl⟩
        · simp only [List.length_append, List.length_cons, List.length_nil]; omega
        · simp only [List.length_append, List.length_set, List.length_cons, List.length_nil]; omega
        · simp only [List.length_append, List.length_set, List.length_cons, List.length_nil]; omega
        · simp only [List.length_nil]; omega
        · rw [getD_last (by simp only [List.length_set]; omega)]; exact AccS.nil _
        · show _ = _
          simp only [List.length_append, List.length_set, List.length_cons, List.length_nil, List.nil_append]; omega
        · rw [posI_cons, ← heP]
          simp only [List.length_append, List.length_set, List.length_cons, List.length_nil]
          rw [posI_cons, show XS.length + (0 + 1) - 1 = n - 1 + 1 by omega]
      clear hs hq
      rintro _ us _ h3 ⟨id2, kd2, n2, X2, j2, A2, e2, rfl, hX2, hn2, hni2, hk2, hj2, hA2, hq2, heL2, heP2, hs⟩ he
      refine W_spell he rfl ?_
      clear he
      have hj0 : 0 ≤ j2 ∧ j2 < (n2 : Int) := ⟨by omega, by omega⟩
      refine (w25_put hv hl hlt hX2 hni2 hk2 hj0 (by omega) hZ hq2 hz hs ⟨rfl, rfl, rfl, rfl, rfl, rfl, rfl, trivial⟩).mono ?_
      clear hs
      rintro _ _ h4 ⟨rfl, _, ⟨z4, cz4, e4, X4, rfl, hX4, hq4, hz4, hs⟩, us, he⟩
      refine blockK_n ?_
      refine seqK_n ?_
      refine W_spell he rfl ?_
      clear he
      repeat' (first
        | (refine K_ops ?_; first
          | refine W_fastB rfl ?_
          | refine W_nil ?_
          | (refine K_bin ?_; first
            | (refine W_add rfl rfl (IntWalk.i64_in _ (by first | omega | (simp only [List.length_set, List.length_append, List.length_take, List.length_drop, List.length_replicate, List.length_cons, List.length_nil, decs_length, List.length_map]; omega))) ?_; refine W_norm rfl ?_)
          )
        )
        | (refine K_code ?_; first
          | refine W_ops ?_
        )
        | refine invK_n ?_)
      refine ⟨_, ?_, _, ⟨i + 1, id2, kd2, n2, X4, z4, _, A2 ++ [L.getD (i : Int).toNat cellE.dflt], cz4, e4, rfl, rfl, ?_, hX4, hn2, ?_, hk2, ?_, ?_, ?_, hz4, heL2, ?_, hs⟩, EnvB.of rfl⟩
      · omega
      · omega
      · omega
      · rw [List.length_append, List.length_cons, List.length_nil]; omega
      · rw [List.length_append, List.length_cons, List.length_nil]; omega
      · rw [← hj2]; exact hq4
      · rw [← heP2, posI_cons, List.append_assoc, List.length_append, List.length_cons, List.length_nil, show j2 = ((n2 - 1 : Nat) : Int) by omega]; rfl
    · by_cases h2 : A.length = N
      · rw [linesGo_full h12 h2, List.length_cons] at heL'
        rw [posGo_new (.inr h2)] at heP
        repeat' (first
          | (refine K_ops ?_; first
            | refine W_fastB rfl ?_
            | refine W_nil ?_
            | (refine W_appB1 lnE hs 0 rfl rfl rfl (AccS.at0 hk (by simp only [List.length_set]; exact hX)) rfl rfl rfl ⟨by decide, by simp only [List.length_set]; omega⟩ ?_; clear hs; intro _ _ _ _ _ hs; try simp only [cell_back, attr_back, List.set_cons_zero, List.set_cons_succ, List.eraseIdx_cons_succ, List.eraseIdx_zero, List.tail_cons, List.nil_append, List.cons_append] at hs; refine W_norm rfl ?_)
            | (refine K_guard ?_; first
              | refine W_guard_off rfl rfl (W_norm rfl ?_)
              | (refine W_guardT rfl (fun hc => ?_) (fun hc => ?_) <;> (try rw [hc]) <;> (try simp only [decide_eq_true_eq, decide_eq_false_iff_not, beq_iff_eq, beq_eq_false_iff_ne, bne_iff_ne, bne_eq_false_iff_eq, Bool.not_eq_true', Bool.not_eq_false', Int.not_lt, Int.not_le, ne_eq, reduceCtorEq, not_true_eq_false, not_false_eq_true, Decidable.not_not] at hc) <;> (try (exfalso; omega)) <;> (try refine W_norm rfl ?_))
            )
            | (refine W_lenL rfl (by first | assumption | exact SlR.ln (by assumption) | exact AccS.ln (by assumption) | exact OwnS.ln (by assumption) | exact VwO.ln (by assumption) | exact OwnP.ln (by assumption) | exact Len.sl) ?_; refine W_norm rfl ?_)
            | (refine K_bin ?_; first
              | (refine W_add rfl rfl (IntWalk.i64_in _ (by first | omega | (simp only [List.length_set, List.length_append, List.length_take, List.length_drop, List.length_replicate, List.length_cons, List.length_nil, decs_length, List.length_map]; omega))) ?_; refine W_norm rfl ?_)
              | (refine W_sub rfl rfl (IntWalk.i64_in _ (by first | omega | (simp only [List.length_set, List.length_append, List.length_take, List.length_drop, List.length_replicate, List.length_cons, List.length_nil, decs_length, List.length_map]; omega))) ?_; refine W_norm rfl ?_)
            )
            | (refine K_pick ?_; first
              | refine W_pick_f rfl rfl (W_norm rfl ?_)
            )
            | (refine K_index ?_; first
              | (refine W_indexO rfl rfl ⟨(by first | omega | (simp only [List.length_set, List.length_append, List.length_take, List.length_drop, List.length_replicate, List.length_cons, List.length_nil, decs_length, List.length_map]; omega)), (by first | omega | (simp only [List.length_set, List.length_append, List.length_take, List.length_drop, List.length_replicate, List.length_cons, List.length_nil, decs_length, List.length_map]; omega))⟩ ?_; refine W_norm rfl ?_)
            )
            | (refine K_load ?_; first
              | (refine W_loadO hs 0 rfl rfl rfl (by first | omega | (simp only [List.length_set, List.length_append, List.length_take, List.length_drop, List.length_replicate, List.length_cons, List.length_nil, decs_length, List.length_map]; omega)) rfl ?_; refine W_norm rfl ?_)
            )
            | (refine K_store ?_; first
              | (refine W_storeOF hs 0 rfl rfl rfl rfl rfl (by first | omega | (simp only [List.length_set, List.length_append, List.length_take, List.length_drop, List.length_replicate, List.length_cons, List.length_nil, decs_length, List.length_map]; omega)) (by first | decide | assumption) rfl rfl rfl rfl ?_; clear hs; intro _ hs; try simp only [cell_back, attr_back, List.set_cons_zero, List.set_cons_succ, List.eraseIdx_cons_succ, List.eraseIdx_zero, List.tail_cons, List.nil_append, List.cons_append] at hs; refine W_norm rfl ?_)
            )
            | (refine W_buildN rfl ?_; refine W_norm rfl ?_)
          )
          | (refine K_code ?_; first
            | (refine W_midB (a := .seq (.ops m25_r12) (.cond (.t 60) (.seq (.ops m25_r13) (.seq (.ops m25_r14) (.seq (.ops m25_r15) (.ops m25_r16)))) .skip)) [6, 9, 10, 58, 59, 60, 61, 62, 63, 64, 65, 66, 67, 68, 69, 70] [0, 1, 2, 3, 4, 5, 6, 7, 8, 9, 10, 11, 12, 13, 14, 15, 16, 17, 18, 19, 20, 21, 22, 23, 24, 25, 26, 27, 28, 29, 30, 31, 32, 33, 34, 35, 36, 37, 38, 39, 40, 41, 42, 43, 44, 45, 46, 47, 48, 49, 50, 51, 52, 53, 54, 55, 56, 57, 58, 59, 60, 61, 62, 63, 64, 65, 66, 67, 68, 69, 70, 71, 72, 73, 74, 75, 76, 77, 78, 79, 80, 81, 82, 83, 84, 85, 86, 87, 88, 89, 90, 91, 92, 93, 94, 95, 96, 97, 98, 99, 100, 101, 102, 103, 104, 105, 106, 107, 108, 109, 110, 111, 112, 113, 114, 115, 116] (fun sl h' => ∃ (id2 : Nat) (kd2 : Kind) (n2 : Nat) (X2 : List LnH) (j2 : Int) (A2 : List Cell) (e2 : Hp), sl = [(6, .sc (.slice id2 0 n2 n2)), (9, .sc (.int .i64 j2)), (10, .sc (.int .i64 (A2.length : Int)))] ∧ X2.length = n2 ∧ 0 < n2 ∧ n2 ≤ i + 2 ∧ kd2 ≠ .ro ∧ j2 = (n2 : Int) - 1 ∧ A2.length < N ∧ AccS cellE 48 (X2.getD j2.toNat lnE.dflt).v A2 e2 ∧ Hid ((n2 - 1) + (linesGo N (A2 ++ [L.getD (i : Int).toNat cellE.dflt]) (L.drop (i + 1))).length = (linesP N L).length) ∧ Z ++ posI ((A2.length, n2 - 1) :: posGo N (A2.length + 1) (n2 - 1) (L.drop (i + 1))) = posI (posGo N 0 0 L) ∧ Sep (Now h) [[(id2, .cells 65 kd2 (X2.flatMap lnE.enc))], cz, e2] h') ?_ ?_)
            | refine W_seq ?_
            | refine W_ops ?_
            | refine W_cond_f rfl ?_
            | (refine W_cond rfl (fun hc => ?_) (fun hc => ?_) <;> (try rw [hc]) <;> (try simp only [decide_eq_true_eq, decide_eq_false_iff_not, beq_iff_eq, beq_eq_false_iff_ne, bne_iff_ne, bne_eq_false_iff_eq, Bool.not_eq_true', Bool.not_eq_false', Int.not_lt, Int.not_le, ne_eq, reduceCtorEq, not_true_eq_false, not_false_eq_true, Decidable.not_not] at hc) <;> (try (exfalso; omega)) <;> (try refine W_norm rfl ?_))
            | refine W_skip ?_
            | refine W_block ?_
          )
          | refine seqK_n ?_
          | refine midK_n ?_)
        · obtain ⟨id2, kd2, rfl, rfl, hk2⟩ := (by assumption : AccS lnE 65 _ _ _).pos (by simp)
          refine ⟨_, ⟨id2, kd2, _, _, _, [], [], rfl, rfl, ?_, ?_, hk2, ?_, ?_, ?_, ?_, ?_, sep_empty2 hs⟩, EnvB.of rfl⟩
          · simp only [List.length_append, List.length_cons, List.length_nil]; omega
          · simp only [List.length_append, List.length_set, List.length_cons, List.length_nil]; omega
          · simp only [List.length_append, List.length_set, List.length_cons, List.length_nil]; omega
          · simp only [List.length_nil]; omega
          · rw [getD_last (by simp only [List.length_set]; omega)]; exact AccS.nil _
          · show _ = _
            simp only [List.length_append, List.length_set, List.length_cons, List.length_nil, List.nil_append]; omega
          · rw [posI_cons, ← heP]
            simp only [List.length_append, List.length_set, List.length_cons, List.length_nil]
            rw [posI_cons, show XS.length + (0 + 1) - 1 = n - 1 + 1 by omega]
        clear hs hq
        rintro _ us _ h3 ⟨id2, kd2, n2, X2, j2, A2, e2, rfl, hX2, hn2, hni2, hk2, hj2, hA2, hq2, heL2, heP2, hs⟩ he
        refine W_spell he rfl ?_
        clear he
        have hj0 : 0 ≤ j2 ∧ j2 < (n2 : Int) := ⟨by omega, by omega⟩
        refine (w25_put hv hl hlt hX2 hni2 hk2 hj0 (by omega) hZ hq2 hz hs ⟨rfl, rfl, rfl, rfl, rfl, rfl, rfl, trivial⟩).mono ?_
        clear hs
        rintro _ _ h4 ⟨rfl, _, ⟨z4, cz4, e4, X4, rfl, hX4, hq4, hz4, hs⟩, us, he⟩
        refine blockK_n ?_
        refine seqK_n ?_
        refine W_spell he rfl ?_
        clear he
        repeat' (first
          | (refine K_ops ?_; first
            | refine W_fastB rfl ?_
            | refine W_nil ?_
            | (refine K_bin ?_; first
              | (refine W_add rfl rfl (IntWalk.i64_in _ (by first | omega | (simp only [List.length_set, List.length_append, List.length_take, List.length_drop, List.length_replicate, List.length_cons, List.length_nil, decs_length, List.length_map]; omega))) ?_; refine W_norm rfl ?_)
            )
          )
          | (refine K_code ?_; first
            | refine W_ops ?_
          )
          | refine invK_n ?_)
        refine ⟨_, ?_, _, ⟨i + 1, id2, kd2, n2, X4, z4, _, A2 ++ [L.getD (i : Int).toNat cellE.dflt], cz4, e4, rfl, rfl, ?_, hX4, hn2, ?_, hk2, ?_, ?_, ?_, hz4, heL2, ?_, hs⟩, EnvB.of rfl⟩
        · omega
        · omega
        · omega
        · rw [List.length_append, List.length_cons, List.length_nil]; omega
        · rw [List.length_append, List.length_cons, List.length_nil]; omega
        · rw [← hj2]; exact hq4
        · rw [← heP2, posI_cons, List.append_assoc, List.length_append, List.length_cons, List.length_nil, show j2 = ((n2 - 1 : Nat) : Int) by omega]; rfl
      · rw [linesGo_on h12 h2] at heL'
        rw [posGo_old (fun k => k.elim h12 h2)] at heP
        by_cases h3 : A.length = N - 1
        · repeat' (first
            | (refine K_ops ?_; first
              | refine W_fastB rfl ?_
              | refine W_nil ?_
              | (refine K_guard ?_; first
                | refine W_guard_on rfl ?_
                | (refine W_guardT rfl (fun hc => ?_) (fun hc => ?_) <;> (try rw [hc]) <;> (try simp only [decide_eq_true_eq, decide_eq_false_iff_not, beq_iff_eq, beq_eq_false_iff_ne, bne_iff_ne, bne_eq_false_iff_eq, Bool.not_eq_true', Bool.not_eq_false', Int.not_lt, Int.not_le, ne_eq, reduceCtorEq, not_true_eq_false, not_false_eq_true, Decidable.not_not] at hc) <;> (try (exfalso; omega)) <;> (try refine W_norm rfl ?_))
              )
              | (refine W_lenL rfl (by first | assumption | exact SlR.ln (by assumption) | exact AccS.ln (by assumption) | exact OwnS.ln (by assumption) | exact VwO.ln (by assumption) | exact OwnP.ln (by assumption) | exact Len.sl) ?_; refine W_norm rfl ?_)
              | (refine K_bin ?_; first
                | (refine W_sub rfl rfl (IntWalk.i64_in _ (by first | omega | (simp only [List.length_set, List.length_append, List.length_take, List.length_drop, List.length_replicate, List.length_cons, List.length_nil, decs_length, List.length_map]; omega))) ?_; refine W_norm rfl ?_)
              )
              | (refine K_pick ?_; first
                | refine W_pick_t rfl rfl (W_norm rfl ?_)
              )
              | (refine K_index ?_; first
                | (refine W_indexO rfl rfl ⟨(by first | omega | (simp only [List.length_set, List.length_append, List.length_take, List.length_drop, List.length_replicate, List.length_cons, List.length_nil, decs_length, List.length_map]; omega)), (by first | omega | (simp only [List.length_set, List.length_append, List.length_take, List.length_drop, List.length_replicate, List.length_cons, List.length_nil, decs_length, List.length_map]; omega))⟩ ?_; refine W_norm rfl ?_)
                | (refine W_indexR rfl rfl (by assumption) rfl ⟨(by first | omega | (simp only [List.length_set, List.length_append, List.length_take, List.length_drop, List.length_replicate, List.length_cons, List.length_nil, decs_length, List.length_map]; omega)), (by first | omega | (simp only [List.length_set, List.length_append, List.length_take, List.length_drop, List.length_replicate, List.length_cons, List.length_nil, decs_length, List.length_map]; omega))⟩ ?_; intro _ _ _; refine W_norm rfl ?_)
              )
              | (refine K_load ?_; first
                | (refine W_loadRF hs rfl (by assumption) rfl ?_; refine W_norm rfl ?_)
                | (refine W_loadO hs 0 rfl rfl rfl (by first | omega | (simp only [List.length_set, List.length_append, List.length_take, List.length_drop, List.length_replicate, List.length_cons, List.length_nil, decs_length, List.length_map]; omega)) rfl ?_; refine W_norm rfl ?_)
              )
            )
            | (refine K_code ?_; first
              | (refine W_midB (a := .seq (.ops m25_r12) (.cond (.t 60) (.seq (.ops m25_r13) (.seq (.ops m25_r14) (.seq (.ops m25_r15) (.ops m25_r16)))) .skip)) [6, 9, 10, 58, 59, 60, 61, 62, 63, 64, 65, 66, 67, 68, 69, 70] [0, 1, 2, 3, 4, 5, 6, 7, 8, 9, 10, 11, 12, 13, 14, 15, 16, 17, 18, 19, 20, 21, 22, 23, 24, 25, 26, 27, 28, 29, 30, 31, 32, 33, 34, 35, 36, 37, 38, 39, 40, 41, 42, 43, 44, 45, 46, 47, 48, 49, 50, 51, 52, 53, 54, 55, 56, 57, 58, 59, 60, 61, 62, 63, 64, 65, 66, 67, 68, 69, 70, 71, 72, 73, 74, 75, 76, 77, 78, 79, 80, 81, 82, 83, 84, 85, 86, 87, 88, 89, 90, 91, 92, 93, 94, 95, 96, 97, 98, 99, 100, 101, 102, 103, 104, 105, 106, 107, 108, 109, 110, 111, 112, 113, 114, 115, 116] (fun sl h' => ∃ (id2 : Nat) (kd2 : Kind) (n2 : Nat) (X2 : List LnH) (j2 : Int) (A2 : List Cell) (e2 : Hp), sl = [(6, .sc (.slice id2 0 n2 n2)), (9, .sc (.int .i64 j2)), (10, .sc (.int .i64 (A2.length : Int)))] ∧ X2.length = n2 ∧ 0 < n2 ∧ n2 ≤ i + 2 ∧ kd2 ≠ .ro ∧ j2 = (n2 : Int) - 1 ∧ A2.length < N ∧ AccS cellE 48 (X2.getD j2.toNat lnE.dflt).v A2 e2 ∧ Hid ((n2 - 1) + (linesGo N (A2 ++ [L.getD (i : Int).toNat cellE.dflt]) (L.drop (i + 1))).length = (linesP N L).length) ∧ Z ++ posI ((A2.length, n2 - 1) :: posGo N (A2.length + 1) (n2 - 1) (L.drop (i + 1))) = posI (posGo N 0 0 L) ∧ Sep (Now h) [[(id2, .cells 65 kd2 (X2.flatMap lnE.enc))], cz, e2] h') ?_ ?_)
              | refine W_seq ?_
              | refine W_ops ?_
              | (refine W_cond rfl (fun hc => ?_) (fun hc => ?_) <;> (try rw [hc]) <;> (try simp only [decide_eq_true_eq, decide_eq_false_iff_not, beq_iff_eq, beq_eq_false_iff_ne, bne_iff_ne, bne_eq_false_iff_eq, Bool.not_eq_true', Bool.not_eq_false', Int.not_lt, Int.not_le, ne_eq, reduceCtorEq, not_true_eq_false, not_false_eq_true, Decidable.not_not] at hc) <;> (try (exfalso; omega)) <;> (try refine W_norm rfl ?_))
              | refine W_skip ?_
              | refine W_block ?_
            )
            | refine seqK_n ?_
            | refine midK_n ?_)
          · refine ⟨_, ⟨id, kd, n, XS, _, A, e, rfl, hX, hn, ?_, hk, rfl, ?_, hq, heL', heP, hs⟩, EnvB.of rfl⟩
            · omega
            · omega
          clear hs hq
          rintro _ us _ h3 ⟨id2, kd2, n2, X2, j2, A2, e2, rfl, hX2, hn2, hni2, hk2, hj2, hA2, hq2, heL2, heP2, hs⟩ he
          refine W_spell he rfl ?_
          clear he
          have hj0 : 0 ≤ j2 ∧ j2 < (n2 : Int) := ⟨by omega, by omega⟩
          refine (w25_put hv hl hlt hX2 hni2 hk2 hj0 (by omega) hZ hq2 hz hs ⟨rfl, rfl, rfl, rfl, rfl, rfl, rfl, trivial⟩).mono ?_
          clear hs
          rintro _ _ h4 ⟨rfl, _, ⟨z4, cz4, e4, X4, rfl, hX4, hq4, hz4, hs⟩, us, he⟩
          refine blockK_n ?_
          refine seqK_n ?_
          refine W_spell he rfl ?_
          clear he
          repeat' (first
            | (refine K_ops ?_; first
              | refine W_fastB rfl ?_
              | refine W_nil ?_
              | (refine K_bin ?_; first
                | (refine W_add rfl rfl (IntWalk.i64_in _ (by first | omega | (simp only [List.length_set, List.length_append, List.length_take, List.length_drop, List.length_replicate, List.length_cons, List.length_nil, decs_length, List.length_map]; omega))) ?_; refine W_norm rfl ?_)
              )
            )
            | (refine K_code ?_; first
              | refine W_ops ?_
            )
            | refine invK_n ?_)
          refine ⟨_, ?_, _, ⟨i + 1, id2, kd2, n2, X4, z4, _, A2 ++ [L.getD (i : Int).toNat cellE.dflt], cz4, e4, rfl, rfl, ?_, hX4, hn2, ?_, hk2, ?_, ?_, ?_, hz4, heL2, ?_, hs⟩, EnvB.of rfl⟩
          · omega
          · omega
          · omega
          · rw [List.length_append, List.length_cons, List.length_nil]; omega
          · rw [List.length_append, List.length_cons, List.length_nil]; omega
          · rw [← hj2]; exact hq4
          · rw [← heP2, posI_cons, List.append_assoc, List.length_append, List.length_cons, List.length_nil, show j2 = ((n2 - 1 : Nat) : Int) by omega]; rfl
        · repeat' (first
            | (refine K_ops ?_; first
              | refine W_fastB rfl ?_
              | refine W_nil ?_
              | (refine K_guard ?_; first
                | refine W_guard_off rfl rfl (W_norm rfl ?_)
                | (refine W_guardT rfl (fun hc => ?_) (fun hc => ?_) <;> (try rw [hc]) <;> (try simp only [decide_eq_true_eq, decide_eq_false_iff_not, beq_iff_eq, beq_eq_false_iff_ne, bne_iff_ne, bne_eq_false_iff_eq, Bool.not_eq_true', Bool.not_eq_false', Int.not_lt, Int.not_le, ne_eq, reduceCtorEq, not_true_eq_false, not_false_eq_true, Decidable.not_not] at hc) <;> (try (exfalso; omega)) <;> (try refine W_norm rfl ?_))
              )
              | (refine W_lenL rfl (by first | assumption | exact SlR.ln (by assumption) | exact AccS.ln (by assumption) | exact OwnS.ln (by assumption) | exact VwO.ln (by assumption) | exact OwnP.ln (by assumption) | exact Len.sl) ?_; refine W_norm rfl ?_)
              | (refine K_bin ?_; first
                | (refine W_sub rfl rfl (IntWalk.i64_in _ (by first | omega | (simp only [List.length_set, List.length_append, List.length_take, List.length_drop, List.length_replicate, List.length_cons, List.length_nil, decs_length, List.length_map]; omega))) ?_; refine W_norm rfl ?_)
              )
              | (refine K_pick ?_; first
                | refine W_pick_f rfl rfl (W_norm rfl ?_)
              )
              | (refine K_index ?_; first
                | (refine W_indexO rfl rfl ⟨(by first | omega | (simp only [List.length_set, List.length_append, List.length_take, List.length_drop, List.length_replicate, List.length_cons, List.length_nil, decs_length, List.length_map]; omega)), (by first | omega | (simp only [List.length_set, List.length_append, List.length_take, List.length_drop, List.length_replicate, List.length_cons, List.length_nil, decs_length, List.length_map]; omega))⟩ ?_; refine W_norm rfl ?_)
              )
              | (refine K_load ?_; first
                | (refine W_loadO hs 0 rfl rfl rfl (by first | omega | (simp only [List.length_set, List.length_append, List.length_take, List.length_drop, List.length_replicate, List.length_cons, List.length_nil, decs_length, List.length_map]; omega)) rfl ?_; refine W_norm rfl ?_)
              )
            )
            | (refine K_code ?_; first
              | (refine W_midB (a := .seq (.ops m25_r12) (.cond (.t 60) (.seq (.ops m25_r13) (.seq (.ops m25_r14) (.seq (.ops m25_r15) (.ops m25_r16)))) .skip)) [6, 9, 10, 58, 59, 60, 61, 62, 63, 64, 65, 66, 67, 68, 69, 70] [0, 1, 2, 3, 4, 5, 6, 7, 8, 9, 10, 11, 12, 13, 14, 15, 16, 17, 18, 19, 20, 21, 22, 23, 24, 25, 26, 27, 28, 29, 30, 31, 32, 33, 34, 35, 36, 37, 38, 39, 40, 41, 42, 43, 44, 45, 46, 47, 48, 49, 50, 51, 52, 53, 54, 55, 56, 57, 58, 59, 60, 61, 62, 63, 64, 65, 66, 67, 68, 69, 70, 71, 72, 73, 74, 75, 76, 77, 78, 79, 80, 81, 82, 83, 84, 85, 86, 87, 88, 89, 90, 91, 92, 93, 94, 95, 96, 97, 98, 99, 100, 101, 102, 103, 104, 105, 106, 107, 108, 109, 110, 111, 112, 113, 114, 115, 116] (fun sl h' => ∃ (id2 : Nat) (kd2 : Kind) (n2 : Nat) (X2 : List LnH) (j2 : Int) (A2 : List Cell) (e2 : Hp), sl = [(6, .sc (.slice id2 0 n2 n2)), (9, .sc (.int .i64 j2)), (10, .sc (.int .i64 (A2.length : Int)))] ∧ X2.length = n2 ∧ 0 < n2 ∧ n2 ≤ i + 2 ∧ kd2 ≠ .ro ∧ j2 = (n2 : Int) - 1 ∧ A2.length < N ∧ AccS cellE 48 (X2.getD j2.toNat lnE.dflt).v A2 e2 ∧ Hid ((n2 - 1) + (linesGo N (A2 ++ [L.getD (i : Int).toNat cellE.dflt]) (L.drop (i + 1))).length = (linesP N L).length) ∧ Z ++ posI ((A2.length, n2 - 1) :: posGo N (A2.length + 1) (n2 - 1) (L.drop (i + 1))) = posI (posGo N 0 0 L) ∧ Sep (Now h) [[(id2, .cells 65 kd2 (X2.flatMap lnE.enc))], cz, e2] h') ?_ ?_)
              | refine W_seq ?_
              | refine W_ops ?_
              | refine W_cond_f rfl ?_
              | (refine W_cond rfl (fun hc => ?_) (fun hc => ?_) <;> (try rw [hc]) <;> (try simp only [decide_eq_true_eq, decide_eq_false_iff_not, beq_iff_eq, beq_eq_false_iff_ne, bne_iff_ne, bne_eq_false_iff_eq, Bool.not_eq_true', Bool.not_eq_false', Int.not_lt, Int.not_le, ne_eq, reduceCtorEq, not_true_eq_false, not_false_eq_true, Decidable.not_not] at hc) <;> (try (exfalso; omega)) <;> (try refine W_norm rfl ?_))
              | refine W_skip ?_
              | refine W_block ?_
            )
            | refine seqK_n ?_
            | refine midK_n ?_)
          · refine ⟨_, ⟨id, kd, n, XS, _, A, e, rfl, hX, hn, ?_, hk, rfl, ?_, hq, heL', heP, hs⟩, EnvB.of rfl⟩
            · omega
            · omega
          clear hs hq
          rintro _ us _ h3 ⟨id2, kd2, n2, X2, j2, A2, e2, rfl, hX2, hn2, hni2, hk2, hj2, hA2, hq2, heL2, heP2, hs⟩ he
          refine W_spell he rfl ?_
          clear he
          have hj0 : 0 ≤ j2 ∧ j2 < (n2 : Int) := ⟨by omega, by omega⟩
          refine (w25_put hv hl hlt hX2 hni2 hk2 hj0 (by omega) hZ hq2 hz hs ⟨rfl, rfl, rfl, rfl, rfl, rfl, rfl, trivial⟩).mono ?_
          clear hs
          rintro _ _ h4 ⟨rfl, _, ⟨z4, cz4, e4, X4, rfl, hX4, hq4, hz4, hs⟩, us, he⟩
          refine blockK_n ?_
          refine seqK_n ?_
          refine W_spell he rfl ?_
          clear he
          repeat' (first
            | (refine K_ops ?_; first
              | refine W_fastB rfl ?_
              | refine W_nil ?_
              | (refine K_bin ?_; first
                | (refine W_add rfl rfl (IntWalk.i64_in _ (by first | omega | (simp only [List.length_set, List.length_append, List.length_take, List.length_drop, List.length_replicate, List.length_cons, List.length_nil, decs_length, List.length_map]; omega))) ?_; refine W_norm rfl ?_)
              )
            )
            | (refine K_code ?_; first
              | refine W_ops ?_
            )
            | refine invK_n ?_)
          refine ⟨_, ?_, _, ⟨i + 1, id2, kd2, n2, X4, z4, _, A2 ++ [L.getD (i : Int).toNat cellE.dflt], cz4, e4, rfl, rfl, ?_, hX4, hn2, ?_, hk2, ?_, ?_, ?_, hz4, heL2, ?_, hs⟩, EnvB.of rfl⟩
          · omega
          · omega
          · omega
          · rw [List.length_append, List.length_cons, List.length_nil]; omega
          · rw [List.length_append, List.length_cons, List.length_nil]; omega
          · rw [← hj2]; exact hq4
          · rw [← heP2, posI_cons, List.append_assoc, List.length_append, List.length_cons, List.length_nil, show j2 = ((n2 - 1 : Nat) : Int) by omega]; rfl
  · obtain rfl : i = L.length := by omega
    have hd : L.drop L.length = [] := List.drop_length
    have heL' := heL.out
    rw [hd] at heL' heP
    rw [show posGo N A.length (n - 1) [] = [] from rfl, show posI [] = [] from rfl, List.append_nil] at heP
    rw [show linesGo N A [] = [⟨A ++ List.replicate (N - A.length) plC, false, false⟩] from rfl, List.length_cons, List.length_nil] at heL'
    have hnl : n = (linesP N L).length := by omega
    have hj0 : 0 ≤ (n : Int) - 1 ∧ (n : Int) - 1 < (n : Int) := ⟨by omega, by omega⟩
    repeat' (first
      | (refine K_ops ?_; first
        | refine W_fastB rfl ?_
        | refine W_nil ?_
        | (refine W_lenL rfl (by first | assumption | exact SlR.ln (by assumption) | exact AccS.ln (by assumption) | exact OwnS.ln (by assumption) | exact VwO.ln (by assumption) | exact OwnP.ln (by assumption) | exact Len.sl) ?_; refine W_norm rfl ?_)
        | (refine K_bin ?_; first
          | (refine W_sub rfl rfl (IntWalk.i64_in _ (by first | omega | (simp only [List.length_set, List.length_append, List.length_take, List.length_drop, List.length_replicate, List.length_cons, List.length_nil, decs_length, List.length_map]; omega))) ?_; refine W_norm rfl ?_)
        )
      )
      | (refine K_code ?_; first
        | refine W_seq ?_
        | refine W_ops ?_
        | (refine W_cond rfl (fun hc => ?_) (fun hc => ?_) <;> (try rw [hc]) <;> (try simp only [decide_eq_true_eq, decide_eq_false_iff_not, beq_iff_eq, beq_eq_false_iff_ne, bne_iff_ne, bne_eq_false_iff_eq, Bool.not_eq_true', Bool.not_eq_false', Int.not_lt, Int.not_le, ne_eq, reduceCtorEq, not_true_eq_false, not_false_eq_true, Decidable.not_not] at hc) <;> (try (exfalso; omega)) <;> (try refine W_norm rfl ?_))
        | refine W_exit ?_
      )
      | refine seqK_n ?_
      | refine seqK_x ?_
      | refine blockK_e ?_
      | refine invK_x ?_)
    repeat' (first
      | (refine K_ops ?_; first
        | refine W_fastB rfl ?_
        | refine W_nil ?_
        | (refine K_call ?_; first
          | (refine W_callsN 33 rfl (w33 _ attr0 _ (by omega)) rfl ?_; rintro _ h3 ⟨u5, c5, rfl, ha5, t⟩; have hs := hs.call t; try simp only [cell_back, attr_back, List.set_cons_zero, List.set_cons_succ, List.eraseIdx_cons_succ, List.eraseIdx_zero, List.tail_cons, List.nil_append, List.cons_append] at hs; refine W_norm rfl ?_)
        )
        | (refine W_lenL rfl (by first | assumption | exact SlR.ln (by assumption) | exact AccS.ln (by assumption) | exact OwnS.ln (by assumption) | exact VwO.ln (by assumption) | exact OwnP.ln (by assumption) | exact Len.sl) ?_; refine W_norm rfl ?_)
        | (refine K_bin ?_; first
          | (refine W_sub rfl rfl (IntWalk.i64_in _ (by first | omega | (simp only [List.length_set, List.length_append, List.length_take, List.length_drop, List.length_replicate, List.length_cons, List.length_nil, decs_length, List.length_map]; omega))) ?_; refine W_norm rfl ?_)
        )
        | (refine K_index ?_; first
          | (refine W_indexO rfl rfl ⟨(by first | omega | (simp only [List.length_set, List.length_append, List.length_take, List.length_drop, List.length_replicate, List.length_cons, List.length_nil, decs_length, List.length_map]; omega)), (by first | omega | (simp only [List.length_set, List.length_append, List.length_take, List.length_drop, List.length_replicate, List.length_cons, List.length_nil, decs_length, List.length_map]; omega))⟩ ?_; refine W_norm rfl ?_)
        )
        | (refine K_load ?_; first
          | (refine W_loadO hs 0 rfl rfl rfl (by first | omega | (simp only [List.length_set, List.length_append, List.length_take, List.length_drop, List.length_replicate, List.length_cons, List.length_nil, decs_length, List.length_map]; omega)) rfl ?_; refine W_norm rfl ?_)
        )
        | (refine K_store ?_; first
          | (refine W_storeOF hs 1 rfl rfl rfl rfl rfl (by first | omega | (simp only [List.length_set, List.length_append, List.length_take, List.length_drop, List.length_replicate, List.length_cons, List.length_nil, decs_length, List.length_map]; omega)) (by first | decide | assumption) rfl rfl rfl rfl ?_; intro _ hs; try simp only [cell_back, attr_back, List.set_cons_zero, List.set_cons_succ, List.eraseIdx_cons_succ, List.eraseIdx_zero, List.tail_cons, List.nil_append, List.cons_append] at hs; refine W_norm rfl ?_)
        )
        | (refine K_append ?_; first
          | (refine W_appS hs 3 rfl rfl (by assumption) rfl (by first | assumption | exact SlR.now hs (by assumption) | exact AccS.now (by assumption) hs (by simp) | exact OwnS.now (by assumption) hs (by simp)) rfl ⟨by decide, (by first | omega | (simp only [List.length_set, List.length_append, List.length_take, List.length_drop, List.length_replicate, List.length_cons, List.length_nil, decs_length, List.length_map]; omega))⟩ ?_; intro _ _ _ _ hs; try simp only [cell_back, attr_back, List.set_cons_zero, List.set_cons_succ, List.eraseIdx_cons_succ, List.eraseIdx_zero, List.tail_cons, List.nil_append, List.cons_append] at hs; refine W_norm rfl ?_)
        )
        | (refine W_buildN rfl ?_; refine W_norm rfl ?_)
      )
      | (refine K_code ?_; first
        | refine W_seq ?_
        | refine W_ops ?_
        | refine W_ret ?_
        | refine W_draws ?_
      )
      | refine W_dstep rfl ?_
      | refine ⟨rfl, fun rc hrec => ?_⟩
      | (refine W_dnilS (by simp only [List.reverse_cons, List.reverse_nil, List.nil_append, List.cons_append]; rfl) (by repeat' first | exact CL_nil _ _ | refine CL_skip rfl ?_ | refine CL_none (by assumption) rfl ?_ | refine CL_load (by assumption) rfl (by first | exact trivial | (repeat' first | exact trivial | refine ⟨⟨_, rfl, (by refine (congrArg (fun x => Heap.get x _) (RecIs.hh (by assumption))).trans ?_; first | rfl | exact PtR.same_get (by assumption) (by assumption) (by assumption) | exact Sep.same_get (by assumption) (by assumption) 0 0 rfl rfl | exact Sep.same_get (by assumption) (by assumption) 0 1 rfl rfl | exact Sep.same_get (by assumption) (by assumption) 0 2 rfl rfl | exact Sep.same_get (by assumption) (by assumption) 0 3 rfl rfl | exact Sep.same_get (by assumption) (by assumption) 0 4 rfl rfl | exact Sep.same_get (by assumption) (by assumption) 0 5 rfl rfl | exact Sep.same_get (by assumption) (by assumption) 1 0 rfl rfl | exact Sep.same_get (by assumption) (by assumption) 1 1 rfl rfl | exact Sep.same_get (by assumption) (by assumption) 1 2 rfl rfl | exact Sep.same_get (by assumption) (by assumption) 1 3 rfl rfl | exact Sep.same_get (by assumption) (by assumption) 1 4 rfl rfl | exact Sep.same_get (by assumption) (by assumption) 1 5 rfl rfl | exact Sep.same_get (by assumption) (by assumption) 2 0 rfl rfl | exact Sep.same_get (by assumption) (by assumption) 2 1 rfl rfl | exact Sep.same_get (by assumption) (by assumption) 2 2 rfl rfl | exact Sep.same_get (by assumption) (by assumption) 2 3 rfl rfl | exact Sep.same_get (by assumption) (by assumption) 2 4 rfl rfl | exact Sep.same_get (by assumption) (by assumption) 2 5 rfl rfl | exact Sep.same_get (by assumption) (by assumption) 3 0 rfl rfl | exact Sep.same_get (by assumption) (by assumption) 3 1 rfl rfl | exact Sep.same_get (by assumption) (by assumption) 3 2 rfl rfl | exact Sep.same_get (by assumption) (by assumption) 3 3 rfl rfl | exact Sep.same_get (by assumption) (by assumption) 3 4 rfl rfl | exact Sep.same_get (by assumption) (by assumption) 3 5 rfl rfl | exact Sep.same_get (by assumption) (by assumption) 4 0 rfl rfl | exact Sep.same_get (by assumption) (by assumption) 4 1 rfl rfl | exact Sep.same_get (by assumption) (by assumption) 4 2 rfl rfl | exact Sep.same_get (by assumption) (by assumption) 4 3 rfl rfl | exact Sep.same_get (by assumption) (by assumption) 4 4 rfl rfl | exact Sep.same_get (by assumption) (by assumption) 4 5 rfl rfl | exact Sep.same_get (by assumption) (by assumption) 5 0 rfl rfl | exact Sep.same_get (by assumption) (by assumption) 5 1 rfl rfl | exact Sep.same_get (by assumption) (by assumption) 5 2 rfl rfl | exact Sep.same_get (by assumption) (by assumption) 5 3 rfl rfl | exact Sep.same_get (by assumption) (by assumption) 5 4 rfl rfl | exact Sep.same_get (by assumption) (by assumption) 5 5 rfl rfl)⟩, ?_⟩)) (by first | exact trivial | (repeat' first | exact trivial | refine ⟨⟨_, rfl, (by refine (congrArg (fun x => Heap.get x _) (RecIs.hh' (by assumption))).trans ?_; first | rfl | exact PtR.same_get (by assumption) (by assumption) (by assumption) | exact Sep.same_get (by assumption) (by assumption) 0 0 rfl rfl | exact Sep.same_get (by assumption) (by assumption) 0 1 rfl rfl | exact Sep.same_get (by assumption) (by assumption) 0 2 rfl rfl | exact Sep.same_get (by assumption) (by assumption) 0 3 rfl rfl | exact Sep.same_get (by assumption) (by assumption) 0 4 rfl rfl | exact Sep.same_get (by assumption) (by assumption) 0 5 rfl rfl | exact Sep.same_get (by assumption) (by assumption) 1 0 rfl rfl | exact Sep.same_get (by assumption) (by assumption) 1 1 rfl rfl | exact Sep.same_get (by assumption) (by assumption) 1 2 rfl rfl | exact Sep.same_get (by assumption) (by assumption) 1 3 rfl rfl | exact Sep.same_get (by assumption) (by assumption) 1 4 rfl rfl | exact Sep.same_get (by assumption) (by assumption) 1 5 rfl rfl | exact Sep.same_get (by assumption) (by assumption) 2 0 rfl rfl | exact Sep.same_get (by assumption) (by assumption) 2 1 rfl rfl | exact Sep.same_get (by assumption) (by assumption) 2 2 rfl rfl | exact Sep.same_get (by assumption) (by assumption) 2 3 rfl rfl | exact Sep.same_get (by assumption) (by assumption) 2 4 rfl rfl | exact Sep.same_get (by assumption) (by assumption) 2 5 rfl rfl | exact Sep.same_get (by assumption) (by assumption) 3 0 rfl rfl | exact Sep.same_get (by assumption) (by assumption) 3 1 rfl rfl | exact Sep.same_get (by assumption) (by assumption) 3 2 rfl rfl | exact Sep.same_get (by assumption) (by assumption) 3 3 rfl rfl | exact Sep.same_get (by assumption) (by assumption) 3 4 rfl rfl | exact Sep.same_get (by assumption) (by assumption) 3 5 rfl rfl | exact Sep.same_get (by assumption) (by assumption) 4 0 rfl rfl | exact Sep.same_get (by assumption) (by assumption) 4 1 rfl rfl | exact Sep.same_get (by assumption) (by assumption) 4 2 rfl rfl | exact Sep.same_get (by assumption) (by assumption) 4 3 rfl rfl | exact Sep.same_get (by assumption) (by assumption) 4 4 rfl rfl | exact Sep.same_get (by assumption) (by assumption) 4 5 rfl rfl | exact Sep.same_get (by assumption) (by assumption) 5 0 rfl rfl | exact Sep.same_get (by assumption) (by assumption) 5 1 rfl rfl | exact Sep.same_get (by assumption) (by assumption) 5 2 rfl rfl | exact Sep.same_get (by assumption) (by assumption) 5 3 rfl rfl | exact Sep.same_get (by assumption) (by assumption) 5 4 rfl rfl | exact Sep.same_get (by assumption) (by assumption) 5 5 rfl rfl)⟩, ?_⟩)) ?_) ?_)
      | refine seqK_n ?_
      | (refine fnK_r rfl ?_; try dsimp only [gd_z, gd_s]))
    refine ⟨_, rfl, _, _, cz, rfl, ?_, ?_, ((hs.drop 0).drop 0).drop 1⟩
    · rw [← hnl]; exact Len.sl
    · rw [← heP]; exact AccS.inPp hz
end Go.Proofs.YtllhbhhgihdakaaDoor
