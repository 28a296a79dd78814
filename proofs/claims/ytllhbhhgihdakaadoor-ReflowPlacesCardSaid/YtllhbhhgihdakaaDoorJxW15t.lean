/- Reflow, the reference: paragraphs. CLNONE -/
import Derived.Test.YtllhbhhgihdakaaDoorJxW15s
set_option linter.unusedSimpArgs false
set_option linter.unusedVariables false
set_option maxHeartbeats 4000000
set_option maxRecDepth 100000
namespace Go.Proofs.YtllhbhhgihdakaaDoor
open Go Go.Jx

/-- A part that stood still is one's own again. -/
theorem sep_thaw {R : Ro} {e : Hp} {N : List Hp} {h h0 : Heap} (s : Sep (R.add e) N h) (s0 : Sep R [e] h0) : Sep R (e :: N) h := by
  have h1 := s0.nd
  have h2 := s0.off
  simp only [List.flatten_cons, List.flatten_nil, List.append_nil] at h1 h2
  refine ⟨fun id o k => s.ro _ _ (.inl k), fun p hp => ?_, ?_, fun p hp o k => ?_⟩
  · rcases List.mem_append.1 (by simpa using hp : p ∈ e ++ N.flatten) with hp | hp
    · exact s.ro _ _ (.inr hp)
    · exact s.get p hp
  · rw [List.flatten_cons, List.map_append, List.nodup_append]
    refine ⟨h1, s.nd, fun a ha b hb he => ?_⟩
    subst he
    obtain ⟨p, hp, rfl⟩ := List.mem_map.1 ha
    obtain ⟨q, hq, he⟩ := List.mem_map.1 hb
    exact s.off q hq p.2 (.inr (by rw [he]; exact hp))
  · rcases List.mem_append.1 (by simpa using hp : p ∈ e ++ N.flatten) with hp | hp
    · exact h2 p hp o k
    · exact s.off p hp o (.inl k)
def ints (l : List Nat) : List Int := l.map fun n : Nat => (n : Int)
theorem ints_append (a b : List Nat) : ints (a ++ b) = ints a ++ ints b := List.map_append
theorem paras_end {acc : List Cell} {x : Ln} {r : List Ln} (h : x.joined = false ∨ r = []) : paras acc (x :: r) = trimP (acc ++ cutL x) :: paras [] r := by
  rcases h with h | rfl
  · exact paras_last h
  · rfl
theorem starts_end {s i : Nat} {x : Ln} {r : List Ln} (h : x.joined = false ∨ r = []) : startsL s i (x :: r) = s :: startsL (i + 1) (i + 1) r := by
  rcases h with h | rfl
  · exact startsL_last h
  · rfl

theorem w24 {v : SV} {G : List LnC} {h : Heap} (hv : LnsR (Now h) v G) (hl : G.length ≤ 100000) (hl2 : ∀ g ∈ G, g.2.length ≤ 100000) : Wc DD 24 [.sc v] h fun x h' => ∃ u1 u2 c P, x = .tup [.sc u1, .sc u2] ∧ NsR cellE (InP c) u1 P ∧ P.map Prod.snd = paras [] (G.map lnOf) ∧ SlR (intEl .i64) (InP c) u2 (ints (startsL 0 0 (G.map lnOf))) ∧ Sep (Now h) [c] h' := by
  have hs := Sep.entry h
  have hln := hv.ln
  have hv1 := hv.1
  have hnil : AccS cellE 48 .nils [] [] := AccS.nil _
  have hGl : (G.map lnOf).length = G.length := List.length_map _
  refine W_enter d24 ?_
  show W _ (.code m24_code [.sc v, undefA, undefA, undefA, undefA, undefA, undefA, undefA, undefA, undefA, undefA, undefA, undefA, undefA, undefA, undefA, undefA, undefA, undefA, undefA, undefA, undefA, undefA, undefA, undefA, undefA, undefA, undefA, undefA, undefA, undefA, undefA, undefA, undefA, undefA, undefA, undefA, undefA, undefA, undefA, undefA, undefA, undefA, undefA, undefA, undefA, undefA, undefA, undefA, undefA, undefA, undefA, undefA, undefA, undefA, undefA, undefA, undefA, undefA, undefA, undefA, undefA, undefA, undefA, undefA, undefA, undefA, undefA, undefA] _) _
  unfold m24_code
  repeat' (first
    | (refine K_ops ?_; first
      | refine W_fastB rfl ?_
      | refine W_nil ?_
    )
    | (refine K_code ?_; first
      | refine W_seq ?_
      | refine W_ops ?_
      | refine W_block ?_
    )
    | refine seqK_n ?_)
  refine W_loopB [4, 5, 6, 7, 8, 9, 10, 11, 12, 13, 14, 15, 16, 17, 18, 19, 20, 21, 22, 23, 24, 25, 26, 27, 28, 29, 30, 31, 32, 33, 34, 35, 36, 37, 38, 39, 40, 41, 42, 43, 44, 45, 46, 47, 48, 49, 50, 51, 52, 53, 54, 55, 56, 57, 58, 59, 60, 61, 62, 63, 64, 65, 66] [0, 1, 2, 3, 4, 5, 6, 7, 8, 9, 10, 11, 12, 13, 14, 15, 16, 17, 18, 19, 20, 21, 22, 23, 24, 25, 26, 27, 28, 29, 30, 31, 32, 33, 34, 35, 36, 37, 38, 39, 40, 41, 42, 43, 44, 45, 46, 47, 48, 49, 50, 51, 52, 53, 54, 55, 56, 57, 58, 59, 60, 61, 62, 63, 64, 65, 66, 67, 68] (fun n' sl h' => ∃ (i : Nat) (x y : SV) (P : List (SV × List Cell)) (S : List Int) (c cy d : Hp), sl = [(4, .sc x), (5, .sc y), (6, .sc (.int .i64 (i : Int)))] ∧ n' = G.length - i ∧ i ≤ G.length ∧ P.length ≤ i ∧ S.length ≤ i ∧ AccS svEl 36 x (P.map Prod.fst) c ∧ (∀ g ∈ P, SlR cellE (InP d) g.1 g.2) ∧ AccS (intEl .i64) 3 y S cy ∧ P.map Prod.snd ++ paras [] ((G.map lnOf).drop i) = paras [] (G.map lnOf) ∧ S ++ ints (startsL i i ((G.map lnOf).drop i)) = ints (startsL 0 0 (G.map lnOf)) ∧ Sep (Now h) [c, cy, d] h') ?_ ?_
  · refine ⟨_, _, ⟨0, .nils, .nils, [], [], [], [], [], rfl, rfl, Nat.zero_le _, Nat.zero_le _, Nat.zero_le _, AccS.nil _, by simp, AccS.nil _, rfl, rfl, hs.nil.nil.nil⟩, EnvB.of rfl⟩
  clear hs
  rintro _ _ us _ h2 ⟨i, x, y, P, S, c, cy, d, rfl, rfl, hi, hP, hS, hacc, hdone, hy, heq, hsq, hs⟩ he
  refine W_spell he rfl ?_
  clear he
  unfold m24_l4
  have hPl : (P.map Prod.fst).length = P.length := List.length_map _
  by_cases hlt : i < G.length
  · replace hs := hs.nil
    repeat' (first
      | (refine K_ops ?_; first
        | refine W_fastB rfl ?_
        | refine W_nil ?_
        | (refine W_lenL rfl (by first | assumption | exact SlR.ln (by assumption) | exact AccS.ln (by assumption) | exact OwnS.ln (by assumption) | exact VwO.ln (by assumption) | exact OwnP.ln (by assumption) | exact Len.sl) ?_; refine W_norm rfl ?_)
        | (refine K_bslice ?_; first
          | (refine W_appB1 (intEl .i64) hs 2 rfl rfl rfl (by assumption) rfl rfl rfl ⟨by decide, (by first | omega | (simp only [List.length_set, List.length_append, List.length_take, List.length_drop, List.length_replicate, List.length_cons, List.length_nil, decs_length, List.length_map]; omega))⟩ ?_; clear hs; intro _ _ _ _ _ hs; try simp only [cell_back, attr_back, List.set_cons_zero, List.set_cons_succ, List.eraseIdx_cons_succ, List.eraseIdx_zero, List.tail_cons, List.nil_append, List.cons_append] at hs; refine W_norm rfl ?_)
        )
      )
      | (refine K_code ?_; first
        | (refine W_midB (a := .block 2 (.loop m24_l8)) [6, 7, 18, 19, 20, 21, 22, 23, 24, 25, 26, 27, 28, 29, 30, 31, 32, 33, 34, 35, 36, 37, 38, 39, 40, 41, 42, 43, 44, 45] [0, 1, 2, 3, 4, 5, 6, 7, 8, 9, 10, 11, 12, 13, 14, 15, 16, 17, 18, 19, 20, 21, 22, 23, 24, 25, 26, 27, 28, 29, 30, 31, 32, 33, 34, 35, 36, 37, 38, 39, 40, 41, 42, 43, 44, 45, 46, 47, 48, 49, 50, 51, 52, 53, 54, 55, 56, 57, 58, 59, 60, 61, 62, 63, 64, 65, 66, 67, 68] (fun sl h' => ∃ (j : Nat) (q : SV) (A : List Cell) (e c2 : Hp) (y2 : SV), sl = [(6, .sc (.int .i64 (j : Int))), (7, .sc q), (5, .sc y2)] ∧ i ≤ j ∧ j < G.length ∧ A.length ≤ 100000 * (j + 1) ∧ AccS cellE 48 q A e ∧ AccS (intEl .i64) 3 y2 (S ++ [(i : Int)]) c2 ∧ P.map Prod.snd ++ (trimP A :: paras [] ((G.map lnOf).drop (j + 1))) = paras [] (G.map lnOf) ∧ S ++ ints (i :: startsL (j + 1) (j + 1) ((G.map lnOf).drop (j + 1))) = ints (startsL 0 0 (G.map lnOf)) ∧ Sep (Now h) [e, c, c2, d] h') ?_ ?_)
        | refine W_seq ?_
        | refine W_ops ?_
        | (refine W_cond rfl (fun hc => ?_) (fun hc => ?_) <;> (try rw [hc]) <;> (try simp only [decide_eq_true_eq, decide_eq_false_iff_not, beq_iff_eq, beq_eq_false_iff_ne, bne_iff_ne, bne_eq_false_iff_eq, Bool.not_eq_true', Bool.not_eq_false', Int.not_lt, Int.not_le, ne_eq, reduceCtorEq, not_true_eq_false, not_false_eq_true, Decidable.not_not] at hc) <;> (try (exfalso; omega)) <;> (try refine W_norm rfl ?_))
        | refine W_skip ?_
        | refine W_block ?_
      )
      | refine seqK_n ?_)
    · rename_i g2 y2 c2 h3 hy2
      refine W_loopB [6, 7, 18, 19, 20, 21, 22, 23, 24, 25, 26, 27, 28, 29, 30, 31, 32, 33, 34, 35, 36, 37, 38, 39, 40, 41, 42, 43, 44, 45] [0, 1, 2, 3, 4, 5, 6, 7, 8, 9, 10, 11, 12, 13, 14, 15, 16, 17, 18, 19, 20, 21, 22, 23, 24, 25, 26, 27, 28, 29, 30, 31, 32, 33, 34, 35, 36, 37, 38, 39, 40, 41, 42, 43, 44, 45, 46, 47, 48, 49, 50, 51, 52, 53, 54, 55, 56, 57, 58, 59, 60, 61, 62, 63, 64, 65, 66, 67, 68] (fun n' sl h' => ∃ (j : Nat) (q : SV) (A : List Cell) (e : Hp), sl = [(6, .sc (.int .i64 (j : Int))), (7, .sc q)] ∧ n' = G.length - j ∧ i ≤ j ∧ j < G.length ∧ A.length ≤ 100000 * j ∧ AccS cellE 48 q A e ∧ P.map Prod.snd ++ paras A ((G.map lnOf).drop j) = paras [] (G.map lnOf) ∧ S ++ ints (startsL i j ((G.map lnOf).drop j)) = ints (startsL 0 0 (G.map lnOf)) ∧ Sep (Now h) [e, c, c2, d] h') ?_ ?_
      · refine ⟨_, _, ⟨i, .nils, [], [], rfl, rfl, Nat.le_refl _, hlt, Nat.zero_le _, hnil, heq, hsq, hs⟩, EnvB.of rfl⟩
      clear hs
      rintro _ _ us _ h4 ⟨j, q, A, e, rfl, rfl, hij, hj, hA, hq, heq2, hsq2, hs⟩ he
      refine W_spell he rfl ?_
      clear he
      unfold m24_l8
      have hrow := hv.at hj
      have hrl := atC_len hl2 hj
      have hrn := hrow.ln
      rw [lnOf_dropH hj] at heq2 hsq2
      have hcnt : countL ⟨atC G j, (atH G j).j, (atH G j).s⟩ ≤ (atC G j).length := countL_le _
      repeat' (first
        | (refine K_code ?_; first
          | (refine W_midB (a := .draw m24_r9) [7, 18, 19, 20, 21, 22, 23, 24, 25, 26, 27, 28, 29, 30] [0, 1, 2, 3, 4, 5, 6, 7, 8, 9, 10, 11, 12, 13, 14, 15, 16, 17, 18, 19, 20, 21, 22, 23, 24, 25, 26, 27, 28, 29, 30, 31, 32, 33, 34, 35, 36, 37, 38, 39, 40, 41, 42, 43, 44, 45, 46, 47, 48, 49, 50, 51, 52, 53, 54, 55, 56, 57, 58, 59, 60, 61, 62, 63, 64, 65, 66, 67, 68] (fun sl h' => ∃ (q2 : SV) (A2 : List Cell) (e2 : Hp), sl = [(7, .sc q2)] ∧ AccS cellE 48 q2 A2 e2 ∧ A2.length ≤ 100000 * (j + 1) ∧ Hid (A2 = A ++ cutL (atL G j)) ∧ Sep (Now h) [e2, c, c2, d] h') ?_ ?_)
          | refine W_block ?_
        ))
      · repeat' (first
          | (refine K_ops ?_; first
            | refine W_fastB rfl ?_
            | refine W_nil ?_
            | (refine K_call ?_; first
              | (refine W_callsN 26 rfl (w26 (l := atH G j) (L := atC G j) hrn (by omega)) rfl ?_; rintro _ h3 ⟨rfl, t⟩; have hs := hs.call t; try simp only [cell_back, attr_back, List.set_cons_zero, List.set_cons_succ, List.eraseIdx_cons_succ, List.eraseIdx_zero, List.tail_cons, List.nil_append, List.cons_append] at hs; refine W_norm rfl ?_)
            )
            | (refine K_index ?_; first
              | (refine W_indexR rfl rfl (by assumption) rfl ⟨(by first | omega | (simp only [List.length_set, List.length_append, List.length_take, List.length_drop, List.length_replicate, List.length_cons, List.length_nil, decs_length, List.length_map]; omega)), (by first | omega | (simp only [List.length_set, List.length_append, List.length_take, List.length_drop, List.length_replicate, List.length_cons, List.length_nil, decs_length, List.length_map]; omega))⟩ ?_; intro _ _ _; refine W_norm rfl ?_)
            )
            | (refine K_load ?_; first
              | (refine W_loadR hs rfl (by assumption) rfl ?_; refine W_norm rfl ?_)
              | (refine W_loadRA hs rfl (by assumption) rfl ?_; refine W_norm rfl ?_)
            )
            | (refine K_slice ?_; first
              | (refine W_sliceRTo rfl rfl (by assumption) rfl ⟨(by first | omega | (simp only [List.length_set, List.length_append, List.length_take, List.length_drop, List.length_replicate, List.length_cons, List.length_nil, decs_length, List.length_map]; omega)), (by first | omega | (simp only [List.length_set, List.length_append, List.length_take, List.length_drop, List.length_replicate, List.length_cons, List.length_nil, decs_length, List.length_map]; omega))⟩ ?_; intro _ _; refine W_norm rfl ?_)
            )
            | (refine K_append ?_; first
              | (refine W_appS hs 0 rfl rfl (by assumption) rfl (by first | assumption | exact SlR.now hs (by assumption) | exact AccS.now (by assumption) hs (by simp) | exact OwnS.now (by assumption) hs (by simp)) rfl ⟨by decide, (by first | omega | (simp only [List.length_set, List.length_append, List.length_take, List.length_drop, List.length_replicate, List.length_cons, List.length_nil, decs_length, List.length_map]; omega))⟩ ?_; intro _ _ _ _ hs; try simp only [cell_back, attr_back, List.set_cons_zero, List.set_cons_succ, List.eraseIdx_cons_succ, List.eraseIdx_zero, List.tail_cons, List.nil_append, List.cons_append] at hs; refine W_norm rfl ?_)
            )
          )
          | (refine K_code ?_; first
            | refine W_draws ?_
          )
          | refine W_dstep rfl ?_
          | refine ⟨rfl, fun rc hrec => ?_⟩
          | (refine W_dnilS (by simp only [List.reverse_cons, List.reverse_nil, List.nil_append, List.cons_append]; rfl) (by repeat' first | exact CL_nil _ _ | refine CL_skip rfl ?_ | refine CL_none (by assumption) rfl ?_ | refine CL_load (by assumption) rfl (by first | exact trivial | (repeat' first | exact trivial | refine ⟨⟨_, rfl, (by refine (congrArg (fun x => Heap.get x _) (RecIs.hh (by assumption))).trans ?_; first | rfl | exact PtR.same_get (by assumption) (by assumption) (by assumption) | exact Sep.same_get (by assumption) (by assumption) 0 0 rfl rfl | exact Sep.same_get (by assumption) (by assumption) 0 1 rfl rfl | exact Sep.same_get (by assumption) (by assumption) 0 2 rfl rfl | exact Sep.same_get (by assumption) (by assumption) 0 3 rfl rfl | exact Sep.same_get (by assumption) (by assumption) 0 4 rfl rfl | exact Sep.same_get (by assumption) (by assumption) 1 0 rfl rfl | exact Sep.same_get (by assumption) (by assumption) 1 1 rfl rfl | exact Sep.same_get (by assumption) (by assumption) 1 2 rfl rfl | exact Sep.same_get (by assumption) (by assumption) 1 3 rfl rfl | exact Sep.same_get (by assumption) (by assumption) 1 4 rfl rfl | exact Sep.same_get (by assumption) (by assumption) 2 0 rfl rfl | exact Sep.same_get (by assumption) (by assumption) 2 1 rfl rfl | exact Sep.same_get (by assumption) (by assumption) 2 2 rfl rfl | exact Sep.same_get (by assumption) (by assumption) 2 3 rfl rfl | exact Sep.same_get (by assumption) (by assumption) 2 4 rfl rfl | exact Sep.same_get (by assumption) (by assumption) 3 0 rfl rfl | exact Sep.same_get (by assumption) (by assumption) 3 1 rfl rfl | exact Sep.same_get (by assumption) (by assumption) 3 2 rfl rfl | exact Sep.same_get (by assumption) (by assumption) 3 3 rfl rfl | exact Sep.same_get (by assumption) (by assumption) 3 4 rfl rfl | exact Sep.same_get (by assumption) (by assumption) 4 0 rfl rfl | exact Sep.same_get (by assumption) (by assumption) 4 1 rfl rfl | exact Sep.same_get (by assumption) (by assumption) 4 2 rfl rfl | exact Sep.same_get (by assumption) (by assumption) 4 3 rfl rfl | exact Sep.same_get (by assumption) (by assumption) 4 4 rfl rfl)⟩, ?_⟩)) (by first | exact trivial | (repeat' first | exact trivial | refine ⟨⟨_, rfl, (by refine (congrArg (fun x => Heap.get x _) (RecIs.hh' (by assumption))).trans ?_; first | rfl | exact PtR.same_get (by assumption) (by assumption) (by assumption) | exact Sep.same_get (by assumption) (by assumption) 0 0 rfl rfl | exact Sep.same_get (by assumption) (by assumption) 0 1 rfl rfl | exact Sep.same_get (by assumption) (by assumption) 0 2 rfl rfl | exact Sep.same_get (by assumption) (by assumption) 0 3 rfl rfl | exact Sep.same_get (by assumption) (by assumption) 0 4 rfl rfl | exact Sep.same_get (by assumption) (by assumption) 1 0 rfl rfl | exact Sep.same_get (by assumption) (by assumption) 1 1 rfl rfl | exact Sep.same_get (by assumption) (by assumption) 1 2 rfl rfl | exact Sep.same_get (by assumption) (by assumption) 1 3 rfl rfl | exact Sep.same_get (by assumption) (by assumption) 1 4 rfl rfl | exact Sep.same_get (by assumption) (by assumption) 2 0 rfl rfl | exact Sep.same_get (by assumption) (by assumption) 2 1 rfl rfl | exact Sep.same_get (by assumption) (by assumption) 2 2 rfl rfl | exact Sep.same_get (by assumption) (by assumption) 2 3 rfl rfl | exact Sep.same_get (by assumption) (by assumption) 2 4 rfl rfl | exact Sep.same_get (by assumption) (by assumption) 3 0 rfl rfl | exact Sep.same_get (by assumption) (by assumption) 3 1 rfl rfl | exact Sep.same_get (by assumption) (by assumption) 3 2 rfl rfl | exact Sep.same_get (by assumption) (by assumption) 3 3 rfl rfl | exact Sep.same_get (by assumption) (by assumption) 3 4 rfl rfl | exact Sep.same_get (by assumption) (by assumption) 4 0 rfl rfl | exact Sep.same_get (by assumption) (by assumption) 4 1 rfl rfl | exact Sep.same_get (by assumption) (by assumption) 4 2 rfl rfl | exact Sep.same_get (by assumption) (by assumption) 4 3 rfl rfl | exact Sep.same_get (by assumption) (by assumption) 4 4 rfl rfl)⟩, ?_⟩)) ?_) ?_)
          | refine midK_n ?_)
        refine ⟨_, ⟨_, _, _, rfl, by assumption, (by rw [List.length_append, cutL_len]; have := hcnt; simp only [atL] at *; omega), rfl, hs⟩, EnvB.of rfl⟩
      clear hs hq
      rintro _ us _ h5 ⟨q2, A2, e2, rfl, hq2, hA2, hAe, hs⟩ he
      refine W_spell he rfl ?_
      clear he
      have hends : ∀ (h : (atL G j).joined = false ∨ (G.map lnOf).drop (j + 1) = []), P.map Prod.snd ++ (trimP A2 :: paras [] ((G.map lnOf).drop (j + 1))) = paras [] (G.map lnOf) ∧ S ++ ints (i :: startsL (j + 1) (j + 1) ((G.map lnOf).drop (j + 1))) = ints (startsL 0 0 (G.map lnOf)) := by
        intro h
        rw [paras_end h, ← hAe.out] at heq2
        rw [starts_end h] at hsq2
        exact ⟨heq2, hsq2⟩
      have hgo : (atL G j).joined = true → (G.map lnOf).drop (j + 1) ≠ [] → P.map Prod.snd ++ paras A2 ((G.map lnOf).drop (j + 1)) = paras [] (G.map lnOf) ∧ S ++ ints (startsL i (j + 1) ((G.map lnOf).drop (j + 1))) = ints (startsL 0 0 (G.map lnOf)) := by
        intro h h'
        rw [paras_joined h h', ← hAe.out] at heq2
        rw [startsL_joined h h'] at hsq2
        exact ⟨heq2, hsq2⟩
      clear heq2 hsq2
      repeat' (first
        | (refine K_ops ?_; first
          | refine W_fastB rfl ?_
          | refine W_nil ?_
          | (refine K_guard ?_; first
            | refine W_guard_on rfl ?_
            | refine W_guard_off rfl rfl (W_norm rfl ?_)
            | (refine W_guardF rfl (fun hc => ?_) (fun hc => ?_) <;> (try rw [hc]) <;> (try simp only [decide_eq_true_eq, decide_eq_false_iff_not, beq_iff_eq, beq_eq_false_iff_ne, bne_iff_ne, bne_eq_false_iff_eq, Bool.not_eq_true', Bool.not_eq_false', Int.not_lt, Int.not_le, ne_eq, reduceCtorEq, not_true_eq_false, not_false_eq_true, Decidable.not_not] at hc) <;> (try (exfalso; omega)) <;> (try refine W_norm rfl ?_))
          )
          | (refine W_lenL rfl (by first | assumption | exact SlR.ln (by assumption) | exact AccS.ln (by assumption) | exact OwnS.ln (by assumption) | exact VwO.ln (by assumption) | exact OwnP.ln (by assumption) | exact Len.sl) ?_; refine W_norm rfl ?_)
          | (refine K_bin ?_; first
            | (refine W_add rfl rfl (IntWalk.i64_in _ (by first | omega | (simp only [List.length_set, List.length_append, List.length_take, List.length_drop, List.length_replicate, List.length_cons, List.length_nil, decs_length, List.length_map]; omega))) ?_; refine W_norm rfl ?_)
            | (refine W_sub rfl rfl (IntWalk.i64_in _ (by first | omega | (simp only [List.length_set, List.length_append, List.length_take, List.length_drop, List.length_replicate, List.length_cons, List.length_nil, decs_length, List.length_map]; omega))) ?_; refine W_norm rfl ?_)
          )
          | (refine K_pick ?_; first
            | refine W_pick_t rfl rfl (W_norm rfl ?_)
            | refine W_pick_f rfl rfl (W_norm rfl ?_)
          )
          | (refine K_index ?_; first
            | (refine W_indexR rfl rfl (by assumption) rfl ⟨(by first | omega | (simp only [List.length_set, List.length_append, List.length_take, List.length_drop, List.length_replicate, List.length_cons, List.length_nil, decs_length, List.length_map]; omega)), (by first | omega | (simp only [List.length_set, List.length_append, List.length_take, List.length_drop, List.length_replicate, List.length_cons, List.length_nil, decs_length, List.length_map]; omega))⟩ ?_; intro _ _ _; refine W_norm rfl ?_)
          )
          | (refine K_load ?_; first
            | (refine W_loadRF hs rfl (by assumption) rfl ?_; refine W_norm rfl ?_)
          )
        )
        | (refine K_code ?_; first
          | refine W_seq ?_
          | refine W_ops ?_
          | refine W_cond_t rfl ?_
          | (refine W_cond rfl (fun hc => ?_) (fun hc => ?_) <;> (try rw [hc]) <;> (try simp only [decide_eq_true_eq, decide_eq_false_iff_not, beq_iff_eq, beq_eq_false_iff_ne, bne_iff_ne, bne_eq_false_iff_eq, Bool.not_eq_true', Bool.not_eq_false', Int.not_lt, Int.not_le, ne_eq, reduceCtorEq, not_true_eq_false, not_false_eq_true, Decidable.not_not] at hc) <;> (try (exfalso; omega)) <;> (try refine W_norm rfl ?_))
          | refine W_skip ?_
          | refine W_exit ?_
        )
        | refine seqK_n ?_
        | refine seqK_x ?_
        | refine blockK_n ?_
        | refine blockK_e ?_
        | refine blockK_x rfl ?_
        | refine invK_x ?_
        | refine invK_n ?_
        | refine midK_n ?_)
      all_goals first
        | (have hj1 : (atH G j).j = true := (by assumption)
           have hz : (G.map lnOf).drop (j + 1) ≠ [] := (by intro h0; have := congrArg List.length h0; rw [List.length_drop, List.length_map, List.length_nil] at this; omega)
           obtain ⟨p1, p2⟩ := hgo hj1 hz
           refine ⟨_, ?_, _, ⟨j + 1, q2, A2, e2, rfl, rfl, ?_, ?_, hA2, hq2, p1, p2, hs⟩, EnvB.of rfl⟩
           all_goals omega)
        | (obtain ⟨p1, p2⟩ := hends (by first | exact .inl (by assumption : (atH G j).j = false) | exact .inr (List.drop_of_length_le (by rw [List.length_map]; omega)))
           exact ⟨_, ⟨j, _, A2, e2, c2, y2, rfl, hij, hj, hA2, hq2, hy2, p1, p2, hs⟩, EnvB.of rfl⟩)
    clear hs
    rintro _ us _ h3 ⟨j, q, A, e, c2, y2, rfl, hij, hj, hA, hq, hy2, heq2, hsq2, hs⟩ he
    refine W_spell he rfl ?_
    clear he
    have s0 : Sep (Now h) [e] h3 := hs.hd
    replace hs := hs.freeze 0 rfl
    simp only [List.eraseIdx_zero, List.tail_cons] at hs
    have hqP0 := AccS.inP hq
    repeat' (first
      | (refine K_code ?_; first
        | (refine W_midB (a := .block 4 (.loop m24_l12)) [7, 46, 47, 48, 49, 50, 51, 52, 53, 54, 55, 56, 57, 58, 59, 60, 61, 62] [0, 1, 2, 3, 4, 5, 6, 7, 8, 9, 10, 11, 12, 13, 14, 15, 16, 17, 18, 19, 20, 21, 22, 23, 24, 25, 26, 27, 28, 29, 30, 31, 32, 33, 34, 35, 36, 37, 38, 39, 40, 41, 42, 43, 44, 45, 46, 47, 48, 49, 50, 51, 52, 53, 54, 55, 56, 57, 58, 59, 60, 61, 62, 63, 64, 65, 66, 67, 68] (fun sl h' => ∃ (q3 : SV), sl = [(7, .sc q3)] ∧ SlR cellE (InP e) q3 (trimP A) ∧ Sep ((Now h).add e) [c, c2, d] h') ?_ ?_)
        | refine W_block ?_
      ))
    · refine W_loopB [7, 46, 47, 48, 49, 50, 51, 52, 53, 54, 55, 56, 57, 58, 59, 60, 61, 62] [0, 1, 2, 3, 4, 5, 6, 7, 8, 9, 10, 11, 12, 13, 14, 15, 16, 17, 18, 19, 20, 21, 22, 23, 24, 25, 26, 27, 28, 29, 30, 31, 32, 33, 34, 35, 36, 37, 38, 39, 40, 41, 42, 43, 44, 45, 46, 47, 48, 49, 50, 51, 52, 53, 54, 55, 56, 57, 58, 59, 60, 61, 62, 63, 64, 65, 66, 67, 68] (fun n' sl h' => ∃ (n : Nat) (q2 : SV), sl = [(7, .sc q2)] ∧ n' = n ∧ n ≤ A.length ∧ Hid (trimP (A.take n) = trimP A) ∧ SlR cellE (InP e) q2 (A.take n) ∧ Sep ((Now h).add e) [c, c2, d] h') ?_ ?_
      · refine ⟨_, _, ⟨A.length, q, rfl, rfl, Nat.le_refl _, (by show _ = _; rw [List.take_length]), (by rw [List.take_length]; exact hqP0), hs⟩, EnvB.of rfl⟩
      clear hs
      rintro n _ us _ h4 ⟨_, q2, rfl, rfl, hn, htr, hqP, hs⟩ he
      refine W_spell he rfl ?_
      clear he
      unfold m24_l12
      have htl : (A.take n).length = n := by rw [List.length_take]; omega
      have hqR := hqP.mono (InP.add (Now h) e)
      have hqn : Len q2 n := by have := hqP.ln; rwa [htl] at this
      by_cases h1 : 0 < n
      · have hg : (A.take n).getD ((n : Int) - 1).toNat cellE.dflt = A.getD (n - 1) cell0 := by
          rw [show ((n : Int) - 1).toNat = n - 1 by omega, List.getD_eq_getElem?_getD, List.getElem?_take_of_lt (by omega), List.getD_eq_getElem?_getD]; rfl
        repeat' (first
          | (refine K_ops ?_; first
            | refine W_fastB rfl ?_
            | refine W_nil ?_
            | (refine W_sliceRTo rfl rfl hqP rfl ⟨by omega, by omega⟩ ?_; intro _ _; refine W_norm rfl ?_)
            | (refine K_guard ?_; first
              | refine W_guard_on rfl ?_
              | (refine W_guardT rfl (fun hc => ?_) (fun hc => ?_) <;> (try rw [hc]) <;> (try simp only [decide_eq_true_eq, decide_eq_false_iff_not, beq_iff_eq, beq_eq_false_iff_ne, bne_iff_ne, bne_eq_false_iff_eq, Bool.not_eq_true', Bool.not_eq_false', Int.not_lt, Int.not_le, ne_eq, reduceCtorEq, not_true_eq_false, not_false_eq_true, Decidable.not_not] at hc) <;> (try (exfalso; omega)) <;> (try refine W_norm rfl ?_))
            )
            | (refine K_call ?_; first
              | (refine W_callsN 32 rfl (w32 (c := (A.take n).getD ((n : Int) - 1).toNat cellE.dflt)) rfl ?_; rintro _ h5 ⟨rfl, t⟩; replace hs := hs.call t; try simp only [cell_back, attr_back, List.set_cons_zero, List.set_cons_succ, List.eraseIdx_cons_succ, List.eraseIdx_zero, List.tail_cons, List.nil_append, List.cons_append] at hs; refine W_norm rfl ?_)
            )
            | (refine W_lenL rfl (by first | assumption | exact SlR.ln (by assumption) | exact AccS.ln (by assumption) | exact OwnS.ln (by assumption) | exact VwO.ln (by assumption) | exact OwnP.ln (by assumption) | exact Len.sl) ?_; refine W_norm rfl ?_)
            | (refine K_bin ?_; first
              | (refine W_sub rfl rfl (IntWalk.i64_in _ (by first | omega | (simp only [List.length_set, List.length_append, List.length_take, List.length_drop, List.length_replicate, List.length_cons, List.length_nil, decs_length, List.length_map]; omega))) ?_; refine W_norm rfl ?_)
            )
            | (refine K_pick ?_; first
              | refine W_pick_t rfl rfl (W_norm rfl ?_)
            )
            | (refine K_index ?_; first
              | (refine W_indexR rfl rfl (by assumption) rfl ⟨(by first | omega | (simp only [List.length_set, List.length_append, List.length_take, List.length_drop, List.length_replicate, List.length_cons, List.length_nil, decs_length, List.length_map]; omega)), (by first | omega | (simp only [List.length_set, List.length_append, List.length_take, List.length_drop, List.length_replicate, List.length_cons, List.length_nil, decs_length, List.length_map]; omega))⟩ ?_; intro _ _ _; refine W_norm rfl ?_)
            )
            | (refine K_load ?_; first
              | (refine W_loadRA hs rfl (by assumption) rfl ?_; refine W_norm rfl ?_)
            )
          )
          | (refine K_code ?_; first
            | refine W_seq ?_
            | refine W_ops ?_
            | (refine W_cond rfl (fun hc => ?_) (fun hc => ?_) <;> (try rw [hc]) <;> (try simp only [decide_eq_true_eq, decide_eq_false_iff_not, beq_iff_eq, beq_eq_false_iff_ne, bne_iff_ne, bne_eq_false_iff_eq, Bool.not_eq_true', Bool.not_eq_false', Int.not_lt, Int.not_le, ne_eq, reduceCtorEq, not_true_eq_false, not_false_eq_true, Decidable.not_not] at hc) <;> (try (exfalso; omega)) <;> (try refine W_norm rfl ?_))
            | refine W_skip ?_
            | refine W_exit ?_
            | refine W_block ?_
          )
          | refine seqK_n ?_
          | refine seqK_x ?_
          | refine blockK_n ?_
          | refine blockK_e ?_
          | refine invK_x ?_
          | refine invK_n ?_
          | refine midK_n ?_)
        · rename_i u2 hu2
          have hp : A.getD (n - 1) cell0 = plC := by rw [← hg]; exact hc
          rw [show ((n : Int) - 1).toNat = n - 1 by omega, List.take_take, Nat.min_eq_left (by omega)] at hu2
          refine ⟨_, ?_, _, ⟨n - 1, u2, rfl, rfl, ?_, ?_, hu2, hs⟩, EnvB.of rfl⟩
          · omega
          · omega
          · show _ = _
            rw [trimP_less h1 hn hp]; exact htr.out
        · have hp : A.getD (n - 1) cell0 ≠ plC := by rw [← hg]; exact hc
          refine ⟨_, ⟨_, rfl, ?_, hs⟩, EnvB.of rfl⟩
          rw [← htr.out, trimP_stay hn (.inr hp)]; exact hqP
      · repeat' (first
          | (refine K_ops ?_; first
            | refine W_fastB rfl ?_
            | refine W_nil ?_
            | (refine K_guard ?_; first
              | refine W_guard_off rfl rfl (W_norm rfl ?_)
              | (refine W_guardT rfl (fun hc => ?_) (fun hc => ?_) <;> (try rw [hc]) <;> (try simp only [decide_eq_true_eq, decide_eq_false_iff_not, beq_iff_eq, beq_eq_false_iff_ne, bne_iff_ne, bne_eq_false_iff_eq, Bool.not_eq_true', Bool.not_eq_false', Int.not_lt, Int.not_le, ne_eq, reduceCtorEq, not_true_eq_false, not_false_eq_true, Decidable.not_not] at hc) <;> (try (exfalso; omega)) <;> (try refine W_norm rfl ?_))
            )
            | (refine W_lenL rfl (by first | assumption | exact SlR.ln (by assumption) | exact AccS.ln (by assumption) | exact OwnS.ln (by assumption) | exact VwO.ln (by assumption) | exact OwnP.ln (by assumption) | exact Len.sl) ?_; refine W_norm rfl ?_)
            | (refine K_pick ?_; first
              | refine W_pick_f rfl rfl (W_norm rfl ?_)
            )
          )
          | (refine K_code ?_; first
            | refine W_seq ?_
            | refine W_ops ?_
            | refine W_cond_f rfl ?_
            | refine W_exit ?_
          )
          | refine seqK_n ?_
          | refine seqK_x ?_
          | refine blockK_e ?_
          | refine invK_x ?_
          | refine midK_n ?_)
        refine ⟨_, ⟨_, rfl, ?_, hs⟩, EnvB.of rfl⟩
        rw [← htr.out, trimP_stay hn (.inl (by omega))]; exact hqP
    clear hs
    rintro _ us _ h4 ⟨q3, rfl, hq3, hs⟩ he
    refine W_spell he rfl ?_
    clear he
    repeat' (first
      | (refine K_ops ?_; first
        | refine W_fastB rfl ?_
        | refine W_nil ?_
        | (refine K_bin ?_; first
          | (refine W_add rfl rfl (IntWalk.i64_in _ (by first | omega | (simp only [List.length_set, List.length_append, List.length_take, List.length_drop, List.length_replicate, List.length_cons, List.length_nil, decs_length, List.length_map]; omega))) ?_; refine W_norm rfl ?_)
        )
        | (refine K_bslice ?_; first
          | (refine W_appB1 svEl hs 0 rfl rfl rfl (by assumption) rfl rfl rfl ⟨by decide, (by first | omega | (simp only [List.length_set, List.length_append, List.length_take, List.length_drop, List.length_replicate, List.length_cons, List.length_nil, decs_length, List.length_map]; omega))⟩ ?_; clear hs; intro _ _ _ _ _ hs; try simp only [cell_back, attr_back, List.set_cons_zero, List.set_cons_succ, List.eraseIdx_cons_succ, List.eraseIdx_zero, List.tail_cons, List.nil_append, List.cons_append] at hs; refine W_norm rfl ?_)
        )
      )
      | (refine K_code ?_; first
        | refine W_ops ?_
      )
      | refine seqK_n ?_
      | refine blockK_n ?_
      | refine invK_n ?_)
    rename_i g5 x5 c5 h5 hacc5
    replace hs := sep_thaw hs s0
    refine ⟨_, ?_, _, ⟨j + 1, x5, y2, P ++ [(q3, trimP A)], S ++ [(i : Int)], c5, c2, e ++ d, rfl, rfl, ?_, ?_, ?_, ?_, done_pushN hdone hq3, hy2, ?_, ?_, hs.reord (fun a => by simp only [List.flatten_cons, List.flatten_nil, List.count_append, List.count_nil, hpOf_append, hpOf_cons, hpOf_nil, List.append_nil, List.eraseIdx_cons_succ, List.eraseIdx_zero, List.tail_cons] <;> omega)⟩, EnvB.of rfl⟩
    · omega
    · omega
    · rw [List.length_append, List.length_cons, List.length_nil]; omega
    · rw [List.length_append, List.length_cons, List.length_nil]; omega
    · rw [List.map_append]; exact hacc5
    · rw [List.map_append, List.append_assoc]; exact heq2
    · rw [List.append_assoc]; exact hsq2
  · obtain rfl : i = G.length := by omega
    have hz : (G.map lnOf).drop G.length = [] := List.drop_of_length_le (by rw [List.length_map]; exact Nat.le_refl _)
    rw [hz, show paras [] [] = [] from rfl, List.append_nil] at heq
    rw [hz, show ints (startsL G.length G.length []) = [] from rfl, List.append_nil] at hsq
    repeat' (first
      | (refine K_ops ?_; first
        | refine W_fastB rfl ?_
        | refine W_nil ?_
        | (refine W_lenL rfl (by first | assumption | exact SlR.ln (by assumption) | exact AccS.ln (by assumption) | exact OwnS.ln (by assumption) | exact VwO.ln (by assumption) | exact OwnP.ln (by assumption) | exact Len.sl) ?_; refine W_norm rfl ?_)
      )
      | (refine K_code ?_; first
        | refine W_seq ?_
        | refine W_ops ?_
        | (refine W_cond rfl (fun hc => ?_) (fun hc => ?_) <;> (try rw [hc]) <;> (try simp only [decide_eq_true_eq, decide_eq_false_iff_not, beq_iff_eq, beq_eq_false_iff_ne, bne_iff_ne, bne_eq_false_iff_eq, Bool.not_eq_true', Bool.not_eq_false', Int.not_lt, Int.not_le, ne_eq, reduceCtorEq, not_true_eq_false, not_false_eq_true, Decidable.not_not] at hc) <;> (try (exfalso; omega)) <;> (try refine W_norm rfl ?_))
        | refine W_ret ?_
        | refine W_exit ?_
      )
      | refine seqK_n ?_
      | refine seqK_x ?_
      | refine blockK_e ?_
      | refine invK_x ?_
      | (refine fnK_r rfl ?_; try dsimp only [gd_z, gd_s]))
    refine ⟨_, rfl, _, _, c ++ (cy ++ d), P, rfl, ⟨(AccS.inPs hacc).mono (InP.left _ _), fun g hg => (hdone g hg).mono ((InP.right _ _).trans (InP.right _ _))⟩, heq, ?_, hs.reord (fun a => by simp only [List.flatten_cons, List.flatten_nil, List.count_append, List.count_nil, hpOf_append, hpOf_cons, hpOf_nil, List.append_nil, List.eraseIdx_cons_succ, List.eraseIdx_zero, List.tail_cons] <;> omega)⟩
    rw [← hsq]
    exact (AccS.inPi hy).mono ((InP.left _ _).trans (InP.right _ _))
end Go.Proofs.YtllhbhhgihdakaaDoor
