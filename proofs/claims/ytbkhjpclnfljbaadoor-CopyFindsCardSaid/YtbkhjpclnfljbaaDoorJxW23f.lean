/- Views: what is selected. -/
import Derived.Test.YtbkhjpclnfljbaaDoorJxW23e
set_option linter.unusedSimpArgs false
set_option linter.unusedVariables false
set_option maxHeartbeats 1000000
set_option maxRecDepth 100000
namespace Go.Proofs.YtbkhjpclnfljbaaDoor
open Go Go.Jx

theorem set_same {α : Type} {M : List α} {k : Nat} {c : α} (hk : M[k]? = some c) : M.set k c = M := by
  apply List.ext_getElem?
  intro i
  rw [List.getElem?_set]
  split
  · rename_i e
    subst e
    rw [if_pos (List.getElem?_eq_some_iff.1 hk).1, hk]
  · rfl
theorem intsB_flat (q : List UInt8) : (intsB q).flatMap (intEl .u8).enc = q.map fun b => SV.int .u8 (b.toNat : Int) := by
  induction q with
  | nil => rfl
  | cons b q ih =>
    have : intsB (b :: q) = (b.toNat : Int) :: intsB q := rfl
    rw [this, List.flatMap_cons, ih]; rfl
theorem W_appStr {D : Nat → Option MFunc} {Q : Ex → List AV → Heap → Prop} {e : List AV} {h : Heap} {dst : Option Nat} {r : List MI} {R : Ro} {M : List Hp} {v : SV} {L : List Int} {c : Hp} {t : TypeId} {zero : List SV} {x y : Rnd} {q : List UInt8}
    (s : Sep R M h) (k : Nat) (hs : rd e x = .sc v) (hx : rd e y = .sc (.str q)) (p : AccS (intEl .u8) t v L c) (hk : M[k]? = some c) (hr : 0 < 1 ∧ (4 * (L.length + q.length) + 1000) * 1 ≤ 2 ^ 48)
    (K : ∀ v' c' h', AccS (intEl .u8) t v' (L ++ intsB q) c' → (q = [] → v' = v) → Sep R (M.set k c') h' → W D (.ops r (put e dst (.sc v')) h') Q) : W D (.ops (⟨dst, .append t 1 1 zero x y, none⟩ :: r) e h) Q := by
  have hil := intsB_length q
  have h1 : lenA (.sc (.str q)) = some (intsB q).length := by rw [hil]; rfl
  have h2 : firstA 1 (intsB q).length (.sc (.str q)) h = some ((intsB q).flatMap (intEl .u8).enc) := by
    show some _ = some _
    rw [hil, List.take_of_length_le (Nat.le_refl _), intsB_flat]
  by_cases h0 : q = []
  · subst h0
    have hA : appendA t 1 1 (.sc v) (.sc (.str [])) h = some (.sc v, h) := by
      unfold appendA
      simp only [lenA, firstA, List.length_nil, if_true]
      rcases p.1 with ⟨_, _, rfl | ⟨b, rfl⟩⟩ | ⟨id, kd, rfl, _, _⟩
      · rfl
      · rfl
      · simp
    refine W_act rfl (v := .sc v) (h' := h) ?_ (K v c h (by rw [show intsB [] = [] from rfl, List.append_nil]; exact p) (fun _ => rfl) (by rw [set_same hk]; exact s))
    show appendA t 1 1 (rd e x) (rd e y) h = _
    rw [hs, hx]; exact hA
  · obtain ⟨v', c', h', h3, h4, h5, h6⟩ := append_own p.1 p.2 s hk h1 h2 (roomA_of (by rw [hil]; exact hr))
    refine W_act rfl (v := .sc v') (h' := h') ?_ (K v' c' h' ⟨h4, h5⟩ (fun hh => absurd hh h0) h6)
    show appendA t 1 1 (rd e x) (rd e y) h = _
    rw [hs, hx]; exact h3
theorem w37 {R : Ro} {M : List Hp} {h : Heap} {id : Nat} {p v : SV} {s : List UInt8} {c : Hp} (hs : Sep R ([(id, .cells 83 .own [p, v])] :: c :: M) h) (hb : Bld id p v s c) (hl : s.length ≤ 900000000) :
    Wc DD 37 [.sc (.ptr id 0), .sc (.int .u8 10)] h fun w h' => w = .sc .nili ∧ ∃ p' v' c', Bld id p' v' (s ++ [10]) c' ∧ Sep R ([(id, .cells 83 .own [p', v'])] :: c' :: M) h' := by
  obtain ⟨h1, h2, h3⟩ := hb
  have hln := h2.ln
  have hil := intsB_length s
  refine W_enter d37 ?_
  show W _ (.code m37_code [.sc (.ptr id 0), .sc (.int .u8 10), undefA, undefA, undefA, undefA, undefA, undefA, undefA, undefA, undefA, undefA, undefA, undefA, undefA, undefA, undefA] _) _
  unfold m37_code
  repeat' (first
    | (refine K_ops ?_; first
      | refine W_fastB rfl ?_
      | refine W_nil ?_
      | (refine K_call ?_; first
        | (refine W_callsN 52 rfl (w52 hs h1) rfl ?_; rintro _ h4 ⟨rfl, hs⟩; refine W_norm rfl ?_)
      )
      | (refine K_load ?_; first
        | (refine W_loadC hs 0 rfl rfl rfl ?_; refine W_norm rfl ?_)
      )
      | (refine K_store ?_; first
        | (refine W_storeC hs 0 rfl rfl rfl rfl (by first | decide | assumption) rfl rfl ?_; clear hs; intro _ hs; try simp only [cell_back, attr_back, List.set_cons_zero, List.set_cons_succ, List.eraseIdx_cons_succ, List.eraseIdx_zero, List.tail_cons, List.nil_append, List.cons_append] at hs; refine W_norm rfl ?_)
      )
      | (refine K_bslice ?_; first
        | (refine W_appB1 (intEl .u8) hs 1 rfl rfl rfl (by assumption) rfl rfl rfl ⟨by decide, (by first | omega | (simp only [List.length_set, List.length_append, List.length_take, List.length_drop, List.length_replicate, List.length_cons, List.length_nil, decs_length, List.length_map]; omega))⟩ ?_; clear hs; intro _ _ _ _ _ hs; try simp only [cell_back, attr_back, List.set_cons_zero, List.set_cons_succ, List.eraseIdx_cons_succ, List.eraseIdx_zero, List.tail_cons, List.nil_append, List.cons_append] at hs; refine W_norm rfl ?_)
      )
    )
    | (refine K_code ?_; first
      | refine W_seq ?_
      | refine W_ops ?_
      | refine W_ret ?_
    )
    | refine seqK_n ?_
    | (refine fnK_r rfl ?_; try dsimp only [gd_z, gd_s]))
  exact ⟨_, rfl, rfl, _, _, _, ⟨.inr rfl, by rw [intsB_append]; assumption, fun hh => by simp at hh⟩, hs⟩
theorem w38 {R : Ro} {M : List Hp} {h : Heap} {id : Nat} {p v : SV} {s q : List UInt8} {c : Hp} (hs : Sep R ([(id, .cells 83 .own [p, v])] :: c :: M) h) (hb : Bld id p v s c) (hl : s.length + q.length ≤ 900000000) :
    Wc DD 38 [.sc (.ptr id 0), .sc (.str q)] h fun w h' => w = .tup [i64 q.length, .sc .nili] ∧ ∃ p' v' c', Bld id p' v' (s ++ q) c' ∧ Sep R ([(id, .cells 83 .own [p', v'])] :: c' :: M) h' := by
  obtain ⟨h1, h2, h3⟩ := hb
  have hln := h2.ln
  have hil := intsB_length s
  refine W_enter d38 ?_
  show W _ (.code m38_code [.sc (.ptr id 0), .sc (.str q), undefA, undefA, undefA, undefA, undefA, undefA, undefA, undefA, undefA, undefA, undefA, undefA, undefA, undefA, undefA, undefA, undefA] _) _
  unfold m38_code
  repeat' (first
    | (refine K_ops ?_; first
      | refine W_fastB rfl ?_
      | refine W_nil ?_
      | (refine W_appStr hs 1 rfl rfl h2 rfl ⟨by decide, by omega⟩ ?_; clear hs; intro v2 c2 h2' ha hv2 hs; simp only [List.set_cons_succ, List.set_cons_zero] at hs; refine W_norm rfl ?_)
      | (refine K_call ?_; first
        | (refine W_callsN 52 rfl (w52 hs h1) rfl ?_; rintro _ h4 ⟨rfl, hs⟩; refine W_norm rfl ?_)
      )
      | (refine K_load ?_; first
        | (refine W_loadC hs 0 rfl rfl rfl ?_; refine W_norm rfl ?_)
      )
      | (refine K_store ?_; first
        | (refine W_storeC hs 0 rfl rfl rfl rfl (by first | decide | assumption) rfl rfl ?_; clear hs; intro _ hs; try simp only [cell_back, attr_back, List.set_cons_zero, List.set_cons_succ, List.eraseIdx_cons_succ, List.eraseIdx_zero, List.tail_cons, List.nil_append, List.cons_append] at hs; refine W_norm rfl ?_)
      )
    )
    | (refine K_code ?_; first
      | refine W_seq ?_
      | refine W_ops ?_
      | refine W_ret ?_
    )
    | refine seqK_n ?_
    | (refine fnK_r rfl ?_; try dsimp only [gd_z, gd_s]))
  exact ⟨_, rfl, rfl, _, _, _, ⟨.inr rfl, by rw [intsB_append]; exact ha, fun hh => by
    obtain ⟨e1, e2⟩ := List.append_eq_nil_iff.1 hh
    rw [hv2 e2]; exact h3 e1⟩, hs⟩

theorem w39 {g : LnH} {C : List Cell} {A : Nat} {b : Int} {h : Heap} (hv : SlR cellE (Now h) g.v C) (hC1 : 1 ≤ C.length) (hC2 : C.length ≤ 1000) (hr : ∀ c ∈ C, -2147483648 ≤ c.r ∧ c.r ≤ 2147483647) (hA : A ≤ C.length) (hb : 0 ≤ b ∧ b < C.length) :
    Wc DD 39 [.agg (lnE.enc g), i64 (A : Int), i64 b] h fun w h' => w = .sc (.str (partT ⟨C, g.j, g.s⟩ A b)) ∧ Sep (Now h) [] h' := by
  have hs := Sep.entry h
  have hln := hv.ln
  refine W_enter d39 ?_
  show W _ (.code m39_code [.agg (lnE.enc g), i64 (A : Int), i64 b, undefA, undefA, undefA, undefA, undefA, undefA, undefA, undefA, undefA, undefA, undefA, undefA, undefA, undefA, undefA, undefA, undefA, undefA, undefA, undefA, undefA, undefA, undefA, undefA, undefA, undefA, undefA, undefA, undefA, undefA, undefA, undefA, undefA, undefA, undefA, undefA, undefA, undefA, undefA, undefA, undefA, undefA, undefA, undefA, undefA, undefA, undefA, undefA, undefA, undefA, undefA, undefA, undefA, undefA, undefA, undefA, undefA, undefA] _) _
  unfold m39_code
  obtain ⟨bb, hbb⟩ : ∃ bb : Int, bb = if b = (C.length : Int) - 1 ∧ (g.j = true ∧ g.s = true) then b - 1 else b := ⟨_, rfl⟩
  repeat' (first
    | (refine K_ops ?_; first
      | refine W_fastB rfl ?_
      | refine W_nil ?_
      | (refine K_guard ?_; first
        | refine W_guard_on rfl ?_
        | refine W_guard_off rfl rfl (W_norm rfl ?_)
        | (refine W_guardT rfl (fun hc => ?_) (fun hc => ?_) <;> (try rw [hc]) <;> (try simp only [decide_eq_true_eq, decide_eq_false_iff_not, beq_iff_eq, beq_eq_false_iff_ne, bne_iff_ne, bne_eq_false_iff_eq, Bool.not_eq_true', Bool.not_eq_false', Int.not_lt, Int.not_le, ne_eq, reduceCtorEq, not_true_eq_false, not_false_eq_true, Decidable.not_not] at hc) <;> (try (exfalso; omega)) <;> (try refine W_norm rfl ?_))
      )
      | (refine W_lenL rfl (by first | assumption | exact SlR.ln (by assumption) | exact AccS.ln (by assumption) | exact OwnS.ln (by assumption) | exact VwO.ln (by assumption) | exact OwnP.ln (by assumption) | exact Len.sl) ?_; refine W_norm rfl ?_)
      | (refine K_bin ?_; first
        | (refine W_sub rfl rfl (IntWalk.i64_in _ (by first | omega | (simp only [List.length_set, List.length_append, List.length_take, List.length_drop, List.length_replicate, List.length_cons, List.length_nil, decs_length, List.length_map]; omega))) ?_; refine W_norm rfl ?_)
      )
      | (refine K_pick ?_; first
        | refine W_pick_t rfl rfl (W_norm rfl ?_)
        | refine W_pick_f rfl rfl (W_norm rfl ?_)
      )
      | (refine K_load ?_; first
        | (refine W_loadC hs 0 rfl rfl rfl ?_; refine W_norm rfl ?_)
      )
      | (refine W_boxS hs rfl rfl ?_; clear hs; intro bx _ hs; try simp only [cell_back, attr_back, List.set_cons_zero, List.set_cons_succ, List.eraseIdx_cons_succ, List.eraseIdx_zero, List.tail_cons, List.nil_append, List.cons_append] at hs; refine W_norm rfl ?_)
    )
    | (refine K_code ?_; first
      | (refine W_midB (a := .seq (.ops m39_r3) _) [2, 19, 20, 21, 22, 23, 24, 25, 26, 27, 28, 29] [0, 1, 2, 3, 4, 5, 6, 7, 8, 9, 10, 11, 12, 13, 14, 15, 16, 17, 18, 19, 20, 21, 22, 23, 24, 25, 26, 27, 28, 29, 30, 31, 32, 33, 34, 35, 36, 37, 38, 39, 40, 41, 42, 43, 44, 45, 46, 47, 48, 49, 50, 51, 52, 53, 54, 55, 56, 57, 58, 59, 60] (fun sl h' => sl = [(2, i64 bb)] ∧ Sep (Now h) [[(bx, .cells 27 .own (lnE.enc g))]] h') ?_ ?_)
      | refine W_seq ?_
      | refine W_ops ?_
      | refine W_cond_f rfl ?_
      | (refine W_cond rfl (fun hc => ?_) (fun hc => ?_) <;> (try rw [hc]) <;> (try simp only [decide_eq_true_eq, decide_eq_false_iff_not, beq_iff_eq, beq_eq_false_iff_ne, bne_iff_ne, bne_eq_false_iff_eq, Bool.not_eq_true', Bool.not_eq_false', Int.not_lt, Int.not_le, ne_eq, reduceCtorEq, not_true_eq_false, not_false_eq_true, Decidable.not_not] at hc) <;> (try (exfalso; omega)) <;> (try refine W_norm rfl ?_))
      | refine W_skip ?_
    )
    | refine seqK_n ?_
    | refine midK_n ?_)
  iterate 4
    · first
      | (rw [show bb = b - 1 by rw [hbb, if_pos ⟨by omega, by assumption, by assumption⟩]]; exact ⟨_, ⟨rfl, hs⟩, EnvB.of rfl⟩)
      | (rw [show bb = b by rw [hbb, if_neg (by rintro ⟨e1, e2, e3⟩; first | omega | (rw [e2] at hc; cases hc) | (rw [e3] at hc; cases hc))]]; exact ⟨_, ⟨rfl, hs⟩, EnvB.of rfl⟩)
  clear hs
  rintro _ us _ h3 ⟨rfl, hs⟩ he
  refine W_spell he rfl ?_
  clear he
  have hpt : partT ⟨C, g.j, g.s⟩ (A : Int) b = if b = (C.length : Int) - 1 ∧ g.j = false then trimB (segB C A (bb - A + 1).toNat) 32 else segB C A (bb - A + 1).toNat := by
    unfold partT
    simp only [Int.toNat_natCast, ← hbb]
  have hbr : bb ≤ b := by rw [hbb]; split <;> omega
  have hbr2 : -1 ≤ bb := by rw [hbb]; split <;> omega
  repeat' (first
    | (refine K_ops ?_; first
      | refine W_fastB rfl ?_
      | refine W_nil ?_
      | (refine W_allocS hs ?_; clear hs; intro al _ hs; try simp only [cell_back, attr_back, List.set_cons_zero, List.set_cons_succ, List.eraseIdx_cons_succ, List.eraseIdx_zero, List.tail_cons, List.nil_append, List.cons_append] at hs; refine W_norm rfl ?_)
    )
    | (refine K_code ?_; first
      | refine W_seq ?_
      | refine W_ops ?_
      | refine W_block ?_
    )
    | refine seqK_n ?_)
  obtain ⟨b0, hb0⟩ : ∃ b0, b0 = al := ⟨_, rfl⟩
  subst hb0
  refine W_loopB [10, 11, 31, 32, 33, 34, 35, 36, 37, 38, 39, 40, 41, 42, 43, 44, 45, 46, 47, 48, 49, 50, 51] [0, 1, 2, 3, 4, 5, 6, 7, 8, 9, 10, 11, 12, 13, 14, 15, 16, 17, 18, 19, 20, 21, 22, 23, 24, 25, 26, 27, 28, 29, 30, 31, 32, 33, 34, 35, 36, 37, 38, 39, 40, 41, 42, 43, 44, 45, 46, 47, 48, 49, 50, 51, 52, 53, 54, 55, 56, 57, 58, 59, 60] (fun n' sl h' => ∃ (n : Nat) (p bu : SV) (c : Hp), sl = [(10, .sc (.int .i64 ((A : Int) + (n : Int))))] ∧ n' = (bb - A + 1).toNat - n ∧ n ≤ (bb - A + 1).toNat ∧ Bld b0 p bu (segB C A n) c ∧ Sep (Now h) [[(b0, .cells 83 .own [p, bu])], c, [(bx, .cells 27 .own (lnE.enc g))]] h') ?_ ?_
  · refine ⟨_, _, ⟨0, .nilp, .nils, [], rfl, rfl, Nat.zero_le _, ?_, ?_⟩, EnvB.of rfl⟩
    · exact ⟨.inl rfl, AccS.nil _, fun _ => rfl⟩
    · exact hs.sublist (by simp)
  clear hs
  rintro _ _ us2 _ h4 ⟨n, p, bu, c, rfl, rfl, hn, hB, hs⟩ he
  refine W_spell he rfl ?_
  clear he
  unfold m39_l7
  have hsl := segB_length C A n
  by_cases hlt : n < (bb - A + 1).toNat
  · have hi : A + n < C.length := by omega
    have hit : ((A : Int) + (n : Int)).toNat = A + n := by omega
    have hrk := hr _ (getD_mem' (d := cell0) hi)
    have hrk2 : -2147483648 ≤ (C.getD ((A : Int) + (n : Int)).toNat cellE.dflt).r ∧ (C.getD ((A : Int) + (n : Int)).toNat cellE.dflt).r ≤ 2147483647 := by rw [hit]; exact hrk
    have hss := segB_succ C A n
    repeat' (first
      | (refine K_ops ?_; first
        | refine W_fastB rfl ?_
        | refine W_nil ?_
        | (refine K_guard ?_; first
          | refine W_guard_on rfl ?_
          | refine W_guard_off rfl rfl (W_norm rfl ?_)
          | (refine W_guardF rfl (fun hc => ?_) (fun hc => ?_) <;> (try rw [hc]) <;> (try simp only [decide_eq_true_eq, decide_eq_false_iff_not, beq_iff_eq, beq_eq_false_iff_ne, bne_iff_ne, bne_eq_false_iff_eq, Bool.not_eq_true', Bool.not_eq_false', Int.not_lt, Int.not_le, ne_eq, reduceCtorEq, not_true_eq_false, not_false_eq_true, Decidable.not_not] at hc) <;> (try (exfalso; omega)) <;> (try refine W_norm rfl ?_))
        )
        | (refine K_call ?_; first
          | (refine W_callsN 50 rfl (w50 (hs.drop 0) hB (by omega) hrk2) rfl ?_; rintro _ h5 ⟨x, rfl, p', u', c', hb', hs⟩; refine W_norm rfl ?_)
        )
        | (refine K_bin ?_; first
          | (refine W_add rfl rfl (IntWalk.i64_in _ (by first | omega | (simp only [List.length_set, List.length_append, List.length_take, List.length_drop, List.length_replicate, List.length_cons, List.length_nil, decs_length, List.length_map]; omega))) ?_; refine W_norm rfl ?_)
        )
        | (refine K_pick ?_; first
          | refine W_pick_t rfl rfl (W_norm rfl ?_)
          | refine W_pick_f rfl rfl (W_norm rfl ?_)
        )
        | (refine K_index ?_; first
          | (refine W_indexR rfl rfl (by assumption) rfl ⟨(by first | omega | (simp only [List.length_set, List.length_append, List.length_take, List.length_drop, List.length_replicate, List.length_cons, List.length_nil, decs_length, List.length_map]; omega)), (by first | omega | (simp only [List.length_set, List.length_append, List.length_take, List.length_drop, List.length_replicate, List.length_cons, List.length_nil, decs_length, List.length_map]; omega))⟩ ?_; intro _ _ _; refine W_norm rfl ?_)
        )
        | (refine K_load ?_; first
          | (refine W_loadRA hs rfl (by assumption) rfl ?_; refine W_norm rfl ?_)
          | (refine W_loadC hs 0 rfl rfl rfl ?_; refine W_norm rfl ?_)
          | (refine W_loadC hs 2 rfl rfl rfl ?_; refine W_norm rfl ?_)
        )
        | (refine K_store ?_; first
          | (refine W_storeC hs 0 rfl rfl rfl rfl (by first | decide | assumption) rfl rfl ?_; clear hs; intro _ hs; try simp only [cell_back, attr_back, List.set_cons_zero, List.set_cons_succ, List.eraseIdx_cons_succ, List.eraseIdx_zero, List.tail_cons, List.nil_append, List.cons_append] at hs; refine W_norm rfl ?_)
        )
        | (refine W_allocS hs ?_; clear hs; intro al _ hs; try simp only [cell_back, attr_back, List.set_cons_zero, List.set_cons_succ, List.eraseIdx_cons_succ, List.eraseIdx_zero, List.tail_cons, List.nil_append, List.cons_append] at hs; refine W_norm rfl ?_)
      )
      | (refine K_code ?_; first
        | refine W_seq ?_
        | refine W_ops ?_
        | refine W_cond_t rfl ?_
        | (refine W_cond rfl (fun hc => ?_) (fun hc => ?_) <;> (try rw [hc]) <;> (try simp only [decide_eq_true_eq, decide_eq_false_iff_not, beq_iff_eq, beq_eq_false_iff_ne, bne_iff_ne, bne_eq_false_iff_eq, Bool.not_eq_true', Bool.not_eq_false', Int.not_lt, Int.not_le, ne_eq, reduceCtorEq, not_true_eq_false, not_false_eq_true, Decidable.not_not] at hc) <;> (try (exfalso; omega)) <;> (try refine W_norm rfl ?_))
        | refine W_skip ?_
        | refine W_block ?_
      )
      | refine seqK_n ?_
      | refine blockK_n ?_
      | refine invK_n ?_)
    · have hn0 : n = 0 := by omega
      rw [if_pos (.inr hn0)] at hss
      have hb2 : Bld b0 p' u' (segB C A (n + 1)) c' := by
        rw [hss]; rw [hit] at hb'; exact hb'
      refine ⟨_, ?_, _, ⟨n + 1, p', u', c', rfl, rfl, ?_, hb2, hs⟩, EnvB.of rfl⟩ <;> omega
    · rw [hit] at *
      have hw2 : (C.getD (A + n) cell0).w = 2 := by assumption
      rw [if_neg (by rintro (e1 | e1); exact e1 hw2; omega), List.append_nil] at hss
      have hb2 : Bld b0 p bu (segB C A (n + 1)) c := by rw [hss]; exact hB
      refine ⟨_, ?_, _, ⟨n + 1, p, bu, c, rfl, rfl, ?_, hb2, hs.drop 0⟩, EnvB.of rfl⟩ <;> omega
    · have hw2 : (C.getD (A + n) cell0).w ≠ 2 := by rw [hit] at hc; exact hc
      rw [if_pos (.inl hw2)] at hss
      have hb2 : Bld b0 p' u' (segB C A (n + 1)) c' := by
        rw [hss]; rw [hit] at hb'; exact hb'
      refine ⟨_, ?_, _, ⟨n + 1, p', u', c', rfl, rfl, ?_, hb2, hs⟩, EnvB.of rfl⟩ <;> omega
  · obtain rfl : n = (bb - A + 1).toNat := by omega
    repeat' (first
      | (refine K_ops ?_; first
        | refine W_fastB rfl ?_
        | refine W_nil ?_
        | (refine K_guard ?_; first
          | refine W_guard_on rfl ?_
          | refine W_guard_off rfl rfl (W_norm rfl ?_)
          | (refine W_guardT rfl (fun hc => ?_) (fun hc => ?_) <;> (try rw [hc]) <;> (try simp only [decide_eq_true_eq, decide_eq_false_iff_not, beq_iff_eq, beq_eq_false_iff_ne, bne_iff_ne, bne_eq_false_iff_eq, Bool.not_eq_true', Bool.not_eq_false', Int.not_lt, Int.not_le, ne_eq, reduceCtorEq, not_true_eq_false, not_false_eq_true, Decidable.not_not] at hc) <;> (try (exfalso; omega)) <;> (try refine W_norm rfl ?_))
        )
        | (refine K_call ?_; first
          | (refine W_callsN 40 rfl (w40 hs hB (by omega)) rfl ?_; rintro _ h5 ⟨rfl, hs⟩; refine W_norm rfl ?_)
          | (refine W_callsN 53 rfl (w53 _ 32 _ (by omega) (by decide)) rfl ?_; rintro _ h5 ⟨rfl, rfl⟩; refine W_norm rfl ?_)
        )
        | (refine K_pick ?_; first
          | refine W_pick_t rfl rfl (W_norm rfl ?_)
          | refine W_pick_f rfl rfl (W_norm rfl ?_)
        )
        | (refine K_load ?_; first
          | (refine W_loadC hs 2 rfl rfl rfl ?_; refine W_norm rfl ?_)
        )
      )
      | (refine K_code ?_; first
        | refine W_seq ?_
        | refine W_ops ?_
        | refine W_cond_f rfl ?_
        | (refine W_cond rfl (fun hc => ?_) (fun hc => ?_) <;> (try rw [hc]) <;> (try simp only [decide_eq_true_eq, decide_eq_false_iff_not, beq_iff_eq, beq_eq_false_iff_ne, bne_iff_ne, bne_eq_false_iff_eq, Bool.not_eq_true', Bool.not_eq_false', Int.not_lt, Int.not_le, ne_eq, reduceCtorEq, not_true_eq_false, not_false_eq_true, Decidable.not_not] at hc) <;> (try (exfalso; omega)) <;> (try refine W_norm rfl ?_))
        | refine W_skip ?_
        | refine W_ret ?_
        | refine W_exit ?_
      )
      | refine seqK_n ?_
      | refine seqK_r ?_
      | refine seqK_x ?_
      | refine blockK_e ?_
      | refine invK_x ?_
      | (refine fnK_r rfl ?_; try dsimp only [gd_z, gd_s]))
    all_goals refine ⟨_, rfl, ?_, hs.none⟩
    all_goals rw [hpt]
    all_goals first
      | (rw [if_pos ⟨by omega, by assumption⟩]; done)
      | (rw [if_neg (by rintro ⟨e1, e2⟩; first | omega | (rw [e2] at hc; cases hc))]; done)
end Go.Proofs.YtbkhjpclnfljbaaDoor
