/- Reflow: all lines at a width. CLNONE -/
import Derived.Test.YtllhbhhgihdakaaDoorJxW15c
set_option linter.unusedSimpArgs false
set_option linter.unusedVariables false
set_option maxHeartbeats 4000000
set_option maxRecDepth 100000
namespace Go.Proofs.YtllhbhhgihdakaaDoor
open Go Go.Jx

/-! ## how many -/
theorem trimP_len' (l : List Cell) : (trimP l).length ≤ l.length := trimP_len l
theorem paras_sum : ∀ (l : List Ln) (acc : List Cell), ((paras acc l).map List.length).sum ≤ acc.length + (l.map countL).sum := by
  intro l
  induction l with
  | nil => intro acc; simp [paras]
  | cons x r ih =>
    intro acc
    have hc := cutL_len x
    rw [List.map_cons, List.sum_cons]
    cases hj : x.joined with
    | false =>
      rw [paras_last hj, List.map_cons, List.sum_cons]
      have h1 := trimP_len (acc ++ cutL x)
      have h2 := ih []
      rw [List.length_append] at h1
      rw [List.length_nil] at h2
      omega
    | true =>
      cases r with
      | nil =>
        have h1 := trimP_len (acc ++ cutL x)
        rw [List.length_append] at h1
        simp only [paras, List.map_cons, List.map_nil, List.sum_cons, List.sum_nil]
        omega
      | cons y r =>
        rw [paras_joined hj (by simp)]
        have h2 := ih (acc ++ cutL x)
        rw [List.length_append] at h2
        omega
theorem paras_count : ∀ (l : List Ln) (acc : List Cell), (paras acc l).length ≤ l.length := by
  intro l
  induction l with
  | nil => intro acc; simp [paras]
  | cons x r ih =>
    intro acc
    cases hj : x.joined with
    | false => rw [paras_last hj]; have := ih []; simp only [List.length_cons]; omega
    | true =>
      cases r with
      | nil => simp [paras]
      | cons y r => rw [paras_joined hj (by simp)]; have := ih (acc ++ cutL x); simp only [List.length_cons] at *; omega
theorem linesGo_le (w : Nat) : ∀ (cs at' : List Cell), (linesGo w at' cs).length ≤ cs.length + 1 := by
  intro cs
  induction cs with
  | nil => intro at'; simp [linesGo]
  | cons c cs ih =>
    intro at'
    unfold linesGo
    split
    · have := ih [c]; simp only [List.length_cons]; omega
    split
    · have := ih [c]; simp only [List.length_cons]; omega
    · have := ih (at' ++ [c]); simp only [List.length_cons]; omega
theorem flat_le (w : Nat) : ∀ (P : List (List Cell)), (P.flatMap (linesP w)).length ≤ (P.map List.length).sum + P.length := by
  intro P
  induction P with
  | nil => simp
  | cons p P ih =>
    rw [List.flatMap_cons, List.length_append, List.map_cons, List.sum_cons, List.length_cons]
    have : (linesP w p).length ≤ p.length + 1 := linesGo_le w p []
    omega
theorem counts_le {n : Nat} : ∀ {l : List Ln}, (∀ x ∈ l, x.cells.length ≤ n) → (l.map countL).sum ≤ n * l.length := by
  intro l
  induction l with
  | nil => intro _; simp
  | cons x r ih =>
    intro h
    rw [List.map_cons, List.sum_cons, List.length_cons, Nat.mul_succ]
    have h1 := h x (by simp)
    have h2 := ih fun y hy => h y (by simp [hy])
    have h3 := countL_le x
    omega
theorem linesL_count {n w : Nat} {l : List Ln} (h : ∀ x ∈ l, x.cells.length ≤ n) : (linesL l w).length ≤ (n + 1) * l.length := by
  unfold linesL
  have h1 := flat_le w (paras [] l)
  have h2 := paras_sum l []
  have h3 := paras_count l []
  have h4 := counts_le h
  rw [List.length_nil] at h2
  rw [Nat.add_mul, Nat.one_mul]; omega
theorem mem_sum {l : List (List Cell)} {p : List Cell} (h : p ∈ l) : p.length ≤ (l.map List.length).sum := by
  induction l with
  | nil => simp at h
  | cons a l ih =>
    rw [List.map_cons, List.sum_cons]
    rcases List.mem_cons.1 h with rfl | h
    · omega
    · have := ih h; omega
theorem cells_le {n : Nat} {G : List LnC} (h : ∀ g ∈ G, g.2.length ≤ n) : ∀ x ∈ G.map lnOf, x.cells.length ≤ n := by
  intro x hx
  obtain ⟨g, hg, rfl⟩ := List.mem_map.1 hx
  exact h g hg
theorem paras_len {n : Nat} {l : List Ln} (h : ∀ x ∈ l, x.cells.length ≤ n) {p : List Cell} (hp : p ∈ paras [] l) : p.length ≤ n * l.length := by
  have h1 := mem_sum hp
  have h2 := paras_sum l []
  have h4 := counts_le h
  rw [List.length_nil] at h2; omega

def linesR (l : List Ln) (w : Int) : List Ln := if okW w then linesL l w.toNat else []
theorem done_append {G G2 : List LnC} {d e : Hp} (h1 : ∀ g ∈ G, SlR cellE (InP d) g.1.v g.2) (h2 : ∀ g ∈ G2, SlR cellE (InP e) g.1.v g.2) : ∀ x ∈ G ++ G2, SlR cellE (InP (e ++ d)) x.1.v x.2 := by
  intro x hx
  rcases List.mem_append.1 hx with hx | hx
  · exact (h1 x hx).mono (InP.right e d)
  · exact (h2 x hx).mono (InP.left e d)

theorem w13 {v : SV} {G : List LnC} {w : Int} {h : Heap} (hv : LnsR (Now h) v G) (hl : G.length ≤ 100000) (hl2 : ∀ g ∈ G, g.2.length ≤ 100000) : Wc DD 13 [.sc v, i64 w] h fun x h' => ∃ u c G', x = .sc u ∧ LnsR (InP c) u G' ∧ G'.map lnOf = linesR (G.map lnOf) w ∧ Sep (Now h) [c] h' := by
  have hs := Sep.entry h
  unfold linesR
  refine W_enter d13 ?_
  show W _ (.code m13_code [.sc v, i64 w, undefA, undefA, undefA, undefA, undefA, undefA, undefA, undefA, undefA, undefA, undefA, undefA, undefA, undefA, undefA, undefA, undefA, undefA, undefA, undefA, undefA, undefA, undefA] _) _
  unfold m13_code
  by_cases hw : okW w
  · repeat' (first
      | (refine K_ops ?_; first
        | refine W_fastB rfl ?_
        | refine W_nil ?_
        | (refine K_call ?_; first
          | (refine W_callsN 21 rfl (w21) rfl ?_; rintro _ h ⟨rfl, rfl⟩; rw [decide_eq_true hw]; refine W_norm rfl ?_)
          | (refine W_callsN 15 rfl (w15 hv hl hl2) rfl ?_; rintro _ h2 ⟨u1, c1, P, rfl, hP, hPe, t⟩; replace hs := hs.call t; try simp only [cell_back, attr_back, List.set_cons_zero, List.set_cons_succ, List.eraseIdx_cons_succ, List.eraseIdx_zero, List.tail_cons, List.nil_append, List.cons_append] at hs; have hPn := hP.ln; refine W_norm rfl ?_)
        )
        | (refine W_lenL rfl (by first | assumption | exact SlR.ln (by assumption) | exact AccS.ln (by assumption) | exact OwnS.ln (by assumption) | exact VwO.ln (by assumption) | exact OwnP.ln (by assumption) | exact Len.sl) ?_; refine W_norm rfl ?_)
      )
      | (refine K_code ?_; first
        | refine W_seq ?_
        | refine W_ops ?_
        | refine W_cond_f rfl ?_
        | refine W_skip ?_
        | refine W_block ?_
      )
      | refine seqK_n ?_)
    rw [if_pos hw]
    have hx := cells_le hl2
    have hGl : (G.map lnOf).length = G.length := List.length_map _
    have hT : (linesL (G.map lnOf) w.toNat).length ≤ 20000000000 := by
      have := linesL_count (w := w.toNat) hx
      omega
    replace hs := hs.freeze 0 rfl
    have hPr : NsR cellE ((Now h).add c1) u1 P := hP.mono (InP.add _ _)
    have hP1 := hPr.1
    have hPc : P.length ≤ 100000 := by
      have h1 := congrArg List.length hPe
      have h2 := paras_count (G.map lnOf) []
      rw [List.length_map] at h1; omega
    have hPl : ∀ i, i < P.length → ((P.map Prod.snd).getD i []).length ≤ 10000000000 := by
      intro i hi
      have := paras_len hx (p := (P.map Prod.snd).getD i []) (by rw [← hPe]; exact getD_mem (by rw [List.length_map]; exact hi))
      omega
    refine W_loopB [5, 7, 14, 15, 16, 17, 18, 19, 20, 21, 22, 23] [0, 1, 2, 3, 4, 5, 6, 7, 8, 9, 10, 11, 12, 13, 14, 15, 16, 17, 18, 19, 20, 21, 22, 23, 24] (fun n' sl h' => ∃ (i : Nat) (x : SV) (c d : Hp) (A : List LnC), sl = [(5, .sc x), (14, .sc (.int .i64 (i : Int)))] ∧ n' = P.length - i ∧ i ≤ P.length ∧ AccS lnE 39 x (A.map Prod.fst) c ∧ (∀ g ∈ A, SlR cellE (InP d) g.1.v g.2) ∧ A.map lnOf ++ ((P.map Prod.snd).drop i).flatMap (linesP w.toNat) = linesL (G.map lnOf) w.toNat ∧ Sep ((Now h).add c1) [c, d] h') ?_ ?_
    · refine ⟨_, _, ⟨0, .nils, [], [], [], rfl, rfl, Nat.zero_le _, AccS.nil _, by simp, (by rw [List.drop_zero, hPe]; rfl), hs.nil.nil⟩, EnvB.of rfl⟩
    clear hs
    rintro _ _ us _ h3 ⟨i, x, c, d, A, rfl, rfl, hi, hacc, hdone, heq, hs⟩ he
    refine W_spell he rfl ?_
    clear he
    unfold m13_l5
    by_cases hlt : i < P.length
    · have hrow := hPr.row hlt
      have hrl := hPl i hlt
      have hd : (P.map Prod.snd).drop i = (P.map Prod.snd).getD i [] :: (P.map Prod.snd).drop (i + 1) := by
        rw [List.drop_eq_getElem_cons (by rw [List.length_map]; exact hlt), List.getD_eq_getElem?_getD, List.getElem?_eq_getElem (by rw [List.length_map]; exact hlt)]; rfl
      rw [hd, List.flatMap_cons, ← List.append_assoc] at heq
      have hlen := congrArg List.length heq
      rw [List.length_append, List.length_append, List.length_map] at hlen
      have hAl : (A.map Prod.fst).length = A.length := List.length_map _
      repeat' (first
        | (refine K_ops ?_; first
          | refine W_fastB rfl ?_
          | refine W_nil ?_
          | (refine K_call ?_; first
            | (refine W_callsN 27 rfl (w27 (SlR.now hs hrow) hrl hw) rfl ?_; rintro _ h2 ⟨u2, c2, G2, rfl, hG2, hG2e, t⟩; replace hs := hs.call t; try simp only [cell_back, attr_back, List.set_cons_zero, List.set_cons_succ, List.eraseIdx_cons_succ, List.eraseIdx_zero, List.tail_cons, List.nil_append, List.cons_append] at hs; have hG21 := (hG2.1).mono (InP.now hs (by simp)); have hG2l : (G2.map Prod.fst).length = (linesP w.toNat ((P.map Prod.snd).getD i [])).length := (by rw [← hG2e, List.length_map, List.length_map]); refine W_norm rfl ?_)
          )
          | (refine K_bin ?_; first
            | (refine W_add rfl rfl (IntWalk.i64_in _ (by first | omega | (simp only [List.length_set, List.length_append, List.length_take, List.length_drop, List.length_replicate, List.length_cons, List.length_nil, decs_length, List.length_map]; omega))) ?_; refine W_norm rfl ?_)
          )
          | (refine K_index ?_; first
            | (refine W_indexR rfl rfl (by assumption) rfl ⟨(by first | omega | (simp only [List.length_set, List.length_append, List.length_take, List.length_drop, List.length_replicate, List.length_cons, List.length_nil, decs_length, List.length_map]; omega)), (by first | omega | (simp only [List.length_set, List.length_append, List.length_take, List.length_drop, List.length_replicate, List.length_cons, List.length_nil, decs_length, List.length_map]; omega))⟩ ?_; intro _ _ _; refine W_norm rfl ?_)
          )
          | (refine K_load ?_; first
            | (refine W_loadR hs rfl (by assumption) rfl ?_; refine W_norm rfl ?_)
          )
          | (refine K_append ?_; first
            | (refine W_appS hs 1 rfl rfl (by assumption) rfl (by first | assumption | exact SlR.now hs (by assumption) | exact AccS.now (by assumption) hs (by simp) | exact OwnS.now (by assumption) hs (by simp)) rfl ⟨by decide, (by first | omega | (simp only [List.length_set, List.length_append, List.length_take, List.length_drop, List.length_replicate, List.length_cons, List.length_nil, decs_length, List.length_map]; omega))⟩ ?_; clear hs; intro _ _ _ _ hs; try simp only [cell_back, attr_back, List.set_cons_zero, List.set_cons_succ, List.eraseIdx_cons_succ, List.eraseIdx_zero, List.tail_cons, List.nil_append, List.cons_append] at hs; refine W_norm rfl ?_)
          )
        )
        | (refine K_code ?_; first
          | refine W_seq ?_
          | refine W_ops ?_
          | (refine W_cond rfl (fun hc => ?_) (fun hc => ?_) <;> (try rw [hc]) <;> (try simp only [decide_eq_true_eq, decide_eq_false_iff_not, beq_iff_eq, beq_eq_false_iff_ne, bne_iff_ne, bne_eq_false_iff_eq, Bool.not_eq_true', Bool.not_eq_false', Int.not_lt, Int.not_le, ne_eq, reduceCtorEq, not_true_eq_false, not_false_eq_true, Decidable.not_not] at hc) <;> (try (exfalso; omega)) <;> (try refine W_norm rfl ?_))
          | refine W_skip ?_
          | refine W_block ?_
        )
        | refine seqK_n ?_
        | refine blockK_n ?_
        | refine invK_n ?_)
      rename_i x4 c4 h4 hacc4
      refine ⟨_, ?_, _, ⟨i + 1, x4, c4, c2 ++ d, A ++ G2, rfl, rfl, ?_, ?_, done_append hdone hG2.2, ?_, hs.reord (fun a => by simp only [List.flatten_cons, List.flatten_nil, List.count_append, List.count_nil, hpOf_append, hpOf_cons, hpOf_nil, List.append_nil, List.eraseIdx_cons_succ, List.eraseIdx_zero, List.tail_cons] <;> omega)⟩, EnvB.of rfl⟩
      · omega
      · omega
      · rw [List.map_append]; exact hacc4
      · rw [List.map_append, hG2e]; exact heq
    · repeat' (first
        | (refine K_ops ?_; first
          | refine W_fastB rfl ?_
          | refine W_nil ?_
        )
        | (refine K_code ?_; first
          | refine W_seq ?_
          | refine W_ops ?_
          | (refine W_cond rfl (fun hc => ?_) (fun hc => ?_) <;> (try rw [hc]) <;> (try simp only [decide_eq_true_eq, decide_eq_false_iff_not, beq_iff_eq, beq_eq_false_iff_ne, bne_iff_ne, bne_eq_false_iff_eq, Bool.not_eq_true', Bool.not_eq_false', Int.not_lt, Int.not_le, ne_eq, reduceCtorEq, not_true_eq_false, not_false_eq_true, Decidable.not_not] at hc) <;> (try (exfalso; omega)) <;> (try refine W_norm rfl ?_))
          | refine W_ret ?_
          | refine W_exit ?_
        )
        | refine seqK_n ?_
        | refine seqK_x ?_
        | refine blockK_e ?_
        | refine invK_x ?_
        | (refine fnK_r rfl ?_; try dsimp only [gd_z, gd_s]))
      obtain rfl : i = P.length := by omega
      have hz : (P.map Prod.snd).drop P.length = [] := List.drop_of_length_le (by rw [List.length_map]; exact Nat.le_refl _)
      rw [hz, List.flatMap_nil, List.append_nil] at heq
      exact ⟨_, rfl, _, c ++ d, A, rfl, ⟨by exact (AccS.inPl hacc).mono (InP.left _ _), fun g hg => (hdone g hg).mono (InP.right _ _)⟩, heq, hs.unadd.reord (fun a => by simp only [List.flatten_cons, List.flatten_nil, List.count_append, List.count_nil, hpOf_append, hpOf_cons, hpOf_nil, List.append_nil, List.eraseIdx_cons_succ, List.eraseIdx_zero, List.tail_cons] <;> omega)⟩
  · repeat' (first
      | (refine K_ops ?_; first
        | refine W_fastB rfl ?_
        | refine W_nil ?_
        | (refine K_call ?_; first
          | (refine W_callsN 21 rfl (w21) rfl ?_; rintro _ h ⟨rfl, rfl⟩; rw [decide_eq_false hw]; refine W_norm rfl ?_)
        )
      )
      | (refine K_code ?_; first
        | refine W_seq ?_
        | refine W_ops ?_
        | refine W_cond_t rfl ?_
        | refine W_ret ?_
      )
      | refine seqK_n ?_
      | refine seqK_r ?_
      | (refine fnK_r rfl ?_; try dsimp only [gd_z, gd_s]))
    exact ⟨_, rfl, _, [], [], rfl, ⟨SlR.nil _, by simp⟩, by rw [if_neg hw]; rfl, hs.nil⟩
end Go.Proofs.YtllhbhhgihdakaaDoor
