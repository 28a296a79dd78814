/- Views: the text that is selected. -/
import Derived.Test.YtbkhjpclnfljbaaDoorJxW23f
set_option linter.unusedSimpArgs false
set_option linter.unusedVariables false
set_option maxHeartbeats 1000000
set_option maxRecDepth 100000
namespace Go.Proofs.YtbkhjpclnfljbaaDoor
open Go Go.Jx

theorem atI {e e0 : List AV} {ms ks : List Nat} {i : Nat} {x y : Int} {sl : List (Nat × AV)} (h : x = y) (k : EnvB e0 ms ks ((i, .sc (.int .i64 x)) :: sl) e) : EnvB e0 ms ks ((i, .sc (.int .i64 y)) :: sl) e := h ▸ k
theorem joined_at {L : List Ln} {G : List LnC} (hm : G.map lnOf = L) {i : Nat} (hi : i < G.length) : (L.getD i ln0).joined = ((G.map Prod.fst).getD i lnE.dflt).j := by
  subst hm
  rw [List.getD_eq_getElem?_getD, lnOf_at hi]; rfl
theorem line_at {L : List Ln} {G : List LnC} (hm : G.map lnOf = L) {i : Nat} (hi : i < G.length) : L.getD i ln0 = atL G i := by
  subst hm
  rw [List.getD_eq_getElem?_getD, lnOf_atH hi]; rfl
theorem sel_le (p q : Spot) : (selA p q).2 ≤ (selZ p q).2 := by
  unfold selA selZ
  cases h : bef q p
  · simp only [Bool.false_eq_true, if_false]
    simp only [bef, decide_eq_false_iff_not] at h
    omega
  · simp only [if_true]
    simp only [bef, decide_eq_true_eq] at h
    omega
theorem sel_in {L : List Ln} {p q : Spot} (hp : InV L p) (hq : InV L q) : InV L (selA p q) ∧ InV L (selZ p q) := by
  unfold selA selZ
  cases bef q p <;> simp [hp, hq]
theorem partT_length {L : List Ln} {h : Int} (k : OkL L h) {y a b : Int} (h0 : 0 ≤ y) (h1 : y < L.length) (ha : 0 ≤ a) (hb : b < wid L y) : (partT (L.getD y.toNat ln0) a b).length ≤ 4000 := by
  have hw := (k.wid h0 h1).2
  unfold partT
  simp only
  have hb' : (if b = ((L.getD y.toNat ln0).cells.length : Int) - 1 ∧ (L.getD y.toNat ln0).joined = true ∧ (L.getD y.toNat ln0).short = true then b - 1 else b) ≤ b := by split <;> omega
  generalize (if b = ((L.getD y.toNat ln0).cells.length : Int) - 1 ∧ (L.getD y.toNat ln0).joined = true ∧ (L.getD y.toNat ln0).short = true then b - 1 else b) = b' at hb'
  have h2 := segB_length (L.getD y.toNat ln0).cells a.toNat (b' - a + 1).toNat
  have h3 := trimB_length (segB (L.getD y.toNat ln0).cells a.toNat (b' - a + 1).toNat) 32
  split <;> omega
theorem rowT_length {L : List Ln} {h : Int} (k : OkL L h) {P Z : Spot} (hP : InV L P) (hZ : InV L Z) {y : Int} (h0 : 0 ≤ y) (h1 : y < L.length) : (rowT L P Z y).length ≤ 4001 := by
  unfold rowT
  rw [List.length_append]
  have := partT_length k h0 h1 (a := if y = P.2 then P.1 else 0) (b := if y = Z.2 then Z.1 else wid L y - 1) (by split; exact hP.2.2.1; omega) (by
    split
    · rename_i e; rw [e]; exact hZ.2.2.2
    · omega)
  split
  · simp only [List.length_cons, List.length_nil]; omega
  · simp only [List.length_nil]; omega
theorem linesT_length {L : List Ln} {h : Int} (k : OkL L h) {P Z : Spot} (hP : InV L P) (hZ : InV L Z) (n : Nat) (hn : P.2 + n ≤ L.length) : (linesT L P Z n).length ≤ n * 4001 := by
  induction n with
  | zero => simp [linesT]
  | succ n ih =>
    rw [linesT_succ, List.length_append]
    have h1 := ih (by omega)
    have h2 := rowT_length k hP hZ (y := P.2 + n) (by have := hP.1; omega) (by omega)
    omega
theorem w16 {R : Ro} {M : List Hp} {h : Heap} {id : Nat} {lv mk : SV} {v : Vw} {G : List LnC} (hs : Sep R (vwO id lv mk v :: M) h) (hG : VwR R lv mk v G) (ok : OkV v) :
    Wc DD 16 [.sc (.ptr id 0)] h fun w h' => w = .sc (.str (textV v)) ∧ Sep R (vwO id lv mk v :: M) h' := by
  have hl := hG.ln
  have hlen := hG.len
  have ok1 := ok.l.len
  have ok2 := ok.l.big
  have hln := hG.lns.1
  have hGl : (G.map Prod.fst).length = v.L.length := by rw [List.length_map]; exact hlen
  rcases hG.mr with ⟨hm, rfl⟩ | ⟨a, b, idm, t, kd, hm, rfl, hR⟩
  · have e : textV v = [] := by unfold textV; rw [hm]
    rw [e]
    refine W_enter d16 ?_
    show W _ (.code m16_code [.sc (.ptr id 0), undefA, undefA, undefA, undefA, undefA, undefA, undefA, undefA, undefA, undefA, undefA, undefA, undefA, undefA, undefA, undefA, undefA, undefA, undefA, undefA, undefA, undefA, undefA, undefA, undefA, undefA, undefA, undefA, undefA, undefA, undefA, undefA, undefA, undefA, undefA, undefA, undefA, undefA, undefA, undefA, undefA, undefA, undefA, undefA, undefA, undefA, undefA, undefA, undefA, undefA, undefA, undefA, undefA, undefA, undefA, undefA, undefA, undefA, undefA, undefA, undefA, undefA, undefA, undefA, undefA, undefA, undefA, undefA, undefA, undefA, undefA, undefA, undefA, undefA, undefA, undefA, undefA, undefA, undefA, undefA, undefA, undefA, undefA, undefA, undefA, undefA, undefA, undefA, undefA, undefA, undefA] _) _
    unfold m16_code
    repeat' (first
      | (refine K_ops ?_; first
        | refine W_fastB rfl ?_
        | refine W_nil ?_
        | (refine K_guard ?_; first
          | refine W_guard_on rfl ?_
        )
        | (refine K_call ?_; first
          | (refine W_callsN 33 rfl (w33 hs hl ok1) rfl ?_; rintro _ h ⟨rfl, rfl⟩; refine W_norm rfl ?_)
        )
        | (refine K_bin ?_; first
          | (refine W_nil_ptr_t rfl rfl rfl ?_; refine W_norm rfl ?_)
        )
        | (refine K_pick ?_; first
          | refine W_pick_f rfl rfl (W_norm rfl ?_)
        )
        | (refine K_load ?_; first
          | (refine W_loadC hs 0 rfl rfl rfl ?_; refine W_norm rfl ?_)
        )
      )
      | (refine K_code ?_; first
        | refine W_seq ?_
        | refine W_ops ?_
        | refine W_cond_t rfl ?_
        | refine W_ret ?_
      )
      | refine seqK_n ?_
      | refine seqK_r ?_
      | (refine fnK_r rfl ?_; try dsimp only [gd_z, gd_s]))
    exact ⟨_, rfl, rfl, hs⟩
  · have e : textV v = selT v.L (a, b) (v.x, v.y) := by unfold textV; rw [hm]
    rw [e]
    have hpin : InV v.L (a, b) := by obtain ⟨m1, m2, m3, m4⟩ := ok.mm a b hm; exact ⟨m1, m2, m3, m4⟩
    have hqin : InV v.L (v.x, v.y) := ⟨ok.y0, ok.y1, ok.x0, ok.x1⟩
    obtain ⟨hPin, hZin⟩ := sel_in hpin hqin
    have hPZ := sel_le (a, b) (v.x, v.y)
    have hPt : PtR R idm 0 (spotE.enc (a, b)) := ⟨_, _, _, hR, rfl⟩
    unfold selT
    obtain ⟨P, hP⟩ : ∃ P, P = selA (a, b) (v.x, v.y) := ⟨_, rfl⟩
    obtain ⟨Z, hZ⟩ : ∃ Z, Z = selZ (a, b) (v.x, v.y) := ⟨_, rfl⟩
    rw [← hP] at hPin hPZ ⊢
    rw [← hZ] at hZin hPZ ⊢
    refine W_enter d16 ?_
    show W _ (.code m16_code [.sc (.ptr id 0), undefA, undefA, undefA, undefA, undefA, undefA, undefA, undefA, undefA, undefA, undefA, undefA, undefA, undefA, undefA, undefA, undefA, undefA, undefA, undefA, undefA, undefA, undefA, undefA, undefA, undefA, undefA, undefA, undefA, undefA, undefA, undefA, undefA, undefA, undefA, undefA, undefA, undefA, undefA, undefA, undefA, undefA, undefA, undefA, undefA, undefA, undefA, undefA, undefA, undefA, undefA, undefA, undefA, undefA, undefA, undefA, undefA, undefA, undefA, undefA, undefA, undefA, undefA, undefA, undefA, undefA, undefA, undefA, undefA, undefA, undefA, undefA, undefA, undefA, undefA, undefA, undefA, undefA, undefA, undefA, undefA, undefA, undefA, undefA, undefA, undefA, undefA, undefA, undefA, undefA, undefA] _) _
    unfold m16_code
    repeat' (first
      | (refine K_ops ?_; first
        | refine W_fastB rfl ?_
        | refine W_nil ?_
        | (refine K_guard ?_; first
          | refine W_guard_on rfl ?_
        )
        | (refine K_call ?_; first
          | (refine W_callsN 33 rfl (w33 hs hl ok1) rfl ?_; rintro _ h ⟨rfl, rfl⟩; refine W_norm rfl ?_)
        )
        | (refine K_bin ?_; first
          | (refine W_nil_ptr_f rfl rfl rfl ?_; refine W_norm rfl ?_)
        )
        | (refine K_pick ?_; first
          | refine W_pick_f rfl rfl (W_norm rfl ?_)
        )
        | (refine K_load ?_; first
          | (refine W_loadC hs 0 rfl rfl rfl ?_; refine W_norm rfl ?_)
        )
        | (refine W_allocS hs ?_; clear hs; intro al _ hs; try simp only [cell_back, attr_back, List.set_cons_zero, List.set_cons_succ, List.eraseIdx_cons_succ, List.eraseIdx_zero, List.tail_cons, List.nil_append, List.cons_append] at hs; refine W_norm rfl ?_)
      )
      | (refine K_code ?_; first
        | (refine W_midB (a := .seq (.ops m16_r3) (.draw m16_r4)) [3, 4, 18, 19, 20, 21, 22, 23, 24, 25, 26, 27] [0, 1, 2, 3, 4, 5, 6, 7, 8, 9, 10, 11, 12, 13, 14, 15, 16, 17, 18, 19, 20, 21, 22, 23, 24, 25, 26, 27, 28, 29, 30, 31, 32, 33, 34, 35, 36, 37, 38, 39, 40, 41, 42, 43, 44, 45, 46, 47, 48, 49, 50, 51, 52, 53, 54, 55, 56, 57, 58, 59, 60, 61, 62, 63, 64, 65, 66, 67, 68, 69, 70, 71, 72, 73, 74, 75, 76, 77, 78, 79, 80, 81, 82, 83, 84, 85, 86, 87, 88, 89, 90, 91] (fun sl h' => ∃ (b3 b4 : Nat), sl = [(3, .sc (.ptr b3 0)), (4, .sc (.ptr b4 0))] ∧ Sep R ([(b4, .cells 58 .own [.int .i64 v.x, .int .i64 v.y])] :: [(b3, .cells 58 .own [.int .i64 a, .int .i64 b])] :: vwO id lv (.ptr idm 0) v :: M) h') ?_ ?_)
        | refine W_seq ?_
        | refine W_ops ?_
        | refine W_cond_f rfl ?_
        | refine W_skip ?_
      )
      | refine seqK_n ?_)
    · repeat' (first
        | (refine K_ops ?_; first
          | refine W_fastB rfl ?_
          | refine W_nil ?_
          | (refine K_load ?_; first
            | (refine W_loadRA hs rfl (by assumption) rfl ?_; refine W_norm rfl ?_)
            | (refine W_loadC hs 2 rfl rfl rfl ?_; refine W_norm rfl ?_)
            | (refine W_loadCA hs 2 rfl rfl rfl ?_; refine W_norm rfl ?_)
          )
          | (refine K_store ?_; first
            | (refine W_storeC hs 0 rfl rfl rfl rfl (by first | decide | assumption) rfl rfl ?_; intro _ hs; try simp only [cell_back, attr_back, List.set_cons_zero, List.set_cons_succ, List.eraseIdx_cons_succ, List.eraseIdx_zero, List.tail_cons, List.nil_append, List.cons_append] at hs; refine W_norm rfl ?_)
            | (refine W_storeC hs 1 rfl rfl rfl rfl (by first | decide | assumption) rfl rfl ?_; intro _ hs; try simp only [cell_back, attr_back, List.set_cons_zero, List.set_cons_succ, List.eraseIdx_cons_succ, List.eraseIdx_zero, List.tail_cons, List.nil_append, List.cons_append] at hs; refine W_norm rfl ?_)
          )
        )
        | (refine K_code ?_; first
          | refine W_draws ?_
        )
        | refine W_dstep rfl ?_
        | refine ⟨rfl, fun rc hrec => ?_⟩
        | (refine W_dnilS (by simp only [List.reverse_cons, List.reverse_nil, List.nil_append, List.cons_append]; rfl) (by repeat' first | exact CL_nil _ _ | refine CL_skip rfl ?_ | refine CL_load (by assumption) rfl (by first | exact trivial | (repeat' first | exact trivial | refine ⟨⟨_, rfl, (by refine (congrArg (fun x => Heap.get x _) (RecIs.hh (by assumption))).trans ?_; first | rfl | exact PtR.same_get (by assumption) (by assumption) (by assumption) | exact Sep.same_get (by assumption) (by assumption) 0 0 rfl rfl | exact Sep.same_get (by assumption) (by assumption) 0 1 rfl rfl | exact Sep.same_get (by assumption) (by assumption) 0 2 rfl rfl | exact Sep.same_get (by assumption) (by assumption) 0 3 rfl rfl | exact Sep.same_get (by assumption) (by assumption) 1 0 rfl rfl | exact Sep.same_get (by assumption) (by assumption) 1 1 rfl rfl | exact Sep.same_get (by assumption) (by assumption) 1 2 rfl rfl | exact Sep.same_get (by assumption) (by assumption) 1 3 rfl rfl | exact Sep.same_get (by assumption) (by assumption) 2 0 rfl rfl | exact Sep.same_get (by assumption) (by assumption) 2 1 rfl rfl | exact Sep.same_get (by assumption) (by assumption) 2 2 rfl rfl | exact Sep.same_get (by assumption) (by assumption) 2 3 rfl rfl | exact Sep.same_get (by assumption) (by assumption) 3 0 rfl rfl | exact Sep.same_get (by assumption) (by assumption) 3 1 rfl rfl | exact Sep.same_get (by assumption) (by assumption) 3 2 rfl rfl | exact Sep.same_get (by assumption) (by assumption) 3 3 rfl rfl)⟩, ?_⟩)) (by first | exact trivial | (repeat' first | exact trivial | refine ⟨⟨_, rfl, (by refine (congrArg (fun x => Heap.get x _) (RecIs.hh' (by assumption))).trans ?_; first | rfl | exact PtR.same_get (by assumption) (by assumption) (by assumption) | exact Sep.same_get (by assumption) (by assumption) 0 0 rfl rfl | exact Sep.same_get (by assumption) (by assumption) 0 1 rfl rfl | exact Sep.same_get (by assumption) (by assumption) 0 2 rfl rfl | exact Sep.same_get (by assumption) (by assumption) 0 3 rfl rfl | exact Sep.same_get (by assumption) (by assumption) 1 0 rfl rfl | exact Sep.same_get (by assumption) (by assumption) 1 1 rfl rfl | exact Sep.same_get (by assumption) (by assumption) 1 2 rfl rfl | exact Sep.same_get (by assumption) (by assumption) 1 3 rfl rfl | exact Sep.same_get (by assumption) (by assumption) 2 0 rfl rfl | exact Sep.same_get (by assumption) (by assumption) 2 1 rfl rfl | exact Sep.same_get (by assumption) (by assumption) 2 2 rfl rfl | exact Sep.same_get (by assumption) (by assumption) 2 3 rfl rfl | exact Sep.same_get (by assumption) (by assumption) 3 0 rfl rfl | exact Sep.same_get (by assumption) (by assumption) 3 1 rfl rfl | exact Sep.same_get (by assumption) (by assumption) 3 2 rfl rfl | exact Sep.same_get (by assumption) (by assumption) 3 3 rfl rfl)⟩, ?_⟩)) ?_) ?_)
        | refine midK_n ?_)
      exact ⟨_, ⟨_, _, rfl, hs⟩, EnvB.of rfl⟩
    clear hs
    rintro _ us _ h2 ⟨b3, b4, rfl, hs⟩ he
    refine W_spell he rfl ?_
    clear he
    repeat' (first
      | (refine K_ops ?_; first
        | refine W_nil ?_
        | (refine K_call ?_; first
          | (refine W_callsN 36 rfl (w36 (v.x, v.y) (a, b) _) rfl ?_; rintro _ h7 ⟨rfl, t⟩; replace hs := hs.call t; try simp only [cell_back, attr_back, List.set_cons_zero, List.set_cons_succ, List.eraseIdx_cons_succ, List.eraseIdx_zero, List.tail_cons, List.nil_append, List.cons_append] at hs; refine W_norm rfl ?_)
        )
        | (refine K_load ?_; first
          | (refine W_loadCA hs 0 rfl rfl rfl ?_; refine W_norm rfl ?_)
          | (refine W_loadCA hs 1 rfl rfl rfl ?_; refine W_norm rfl ?_)
        )
        | (refine K_store ?_; first
          | (refine W_storeC hs 0 rfl rfl rfl rfl (by first | decide | assumption) rfl rfl ?_; clear hs; intro _ hs; try simp only [cell_back, attr_back, List.set_cons_zero, List.set_cons_succ, List.eraseIdx_cons_succ, List.eraseIdx_zero, List.tail_cons, List.nil_append, List.cons_append] at hs; refine W_norm rfl ?_)
          | (refine W_storeC hs 1 rfl rfl rfl rfl (by first | decide | assumption) rfl rfl ?_; clear hs; intro _ hs; try simp only [cell_back, attr_back, List.set_cons_zero, List.set_cons_succ, List.eraseIdx_cons_succ, List.eraseIdx_zero, List.tail_cons, List.nil_append, List.cons_append] at hs; refine W_norm rfl ?_)
        )
      )
      | (refine K_code ?_; first
        | (refine W_midB (a := .seq (.ops m16_r5) _) [28, 29, 30, 31, 32] [0, 1, 2, 3, 4, 5, 6, 7, 8, 9, 10, 11, 12, 13, 14, 15, 16, 17, 18, 19, 20, 21, 22, 23, 24, 25, 26, 27, 28, 29, 30, 31, 32, 33, 34, 35, 36, 37, 38, 39, 40, 41, 42, 43, 44, 45, 46, 47, 48, 49, 50, 51, 52, 53, 54, 55, 56, 57, 58, 59, 60, 61, 62, 63, 64, 65, 66, 67, 68, 69, 70, 71, 72, 73, 74, 75, 76, 77, 78, 79, 80, 81, 82, 83, 84, 85, 86, 87, 88, 89, 90, 91] (fun sl h' => sl = [(3, .sc (.ptr b3 0)), (4, .sc (.ptr b4 0))] ∧ Sep R ([(b4, .cells 58 .own [.int .i64 Z.1, .int .i64 Z.2])] :: [(b3, .cells 58 .own [.int .i64 P.1, .int .i64 P.2])] :: vwO id lv (.ptr idm 0) v :: M) h') ?_ ?_)
        | refine W_seq ?_
        | refine W_ops ?_
        | (refine W_cond rfl (fun hc => ?_) (fun hc => ?_) <;> (try rw [hc]) <;> (try simp only [decide_eq_true_eq, decide_eq_false_iff_not, beq_iff_eq, beq_eq_false_iff_ne, bne_iff_ne, bne_eq_false_iff_eq, Bool.not_eq_true', Bool.not_eq_false', Int.not_lt, Int.not_le, ne_eq, reduceCtorEq, not_true_eq_false, not_false_eq_true, Decidable.not_not] at hc) <;> (try (exfalso; omega)) <;> (try refine W_norm rfl ?_))
        | refine W_skip ?_
      )
      | refine seqK_n ?_
      | refine midK_n ?_)
    · rw [show P = (v.x, v.y) by rw [hP]; unfold selA; rw [if_pos hc], show Z = (a, b) by rw [hZ]; unfold selZ; rw [if_pos hc]]
      exact ⟨_, ⟨rfl, hs⟩, EnvB.of rfl⟩
    · rw [show P = (a, b) by rw [hP]; unfold selA; rw [if_neg (by rw [hc]; simp)], show Z = (v.x, v.y) by rw [hZ]; unfold selZ; rw [if_neg (by rw [hc]; simp)]]
      exact ⟨_, ⟨rfl, hs⟩, EnvB.of rfl⟩
    clear hs
    rintro _ us _ h3 ⟨rfl, hs⟩ he
    refine W_spell he rfl ?_
    clear he
    repeat' (first
      | (refine K_ops ?_; first
        | refine W_fastB rfl ?_
        | refine W_nil ?_
        | (refine K_load ?_; first
          | (refine W_loadC hs 2 rfl rfl rfl ?_; refine W_norm rfl ?_)
        )
        | (refine W_allocS hs ?_; clear hs; intro al _ hs; try simp only [cell_back, attr_back, List.set_cons_zero, List.set_cons_succ, List.eraseIdx_cons_succ, List.eraseIdx_zero, List.tail_cons, List.nil_append, List.cons_append] at hs; refine W_norm rfl ?_)
      )
      | (refine K_code ?_; first
        | refine W_seq ?_
        | refine W_ops ?_
        | refine W_block ?_
      )
      | refine seqK_n ?_)
    obtain ⟨b0, hb0⟩ : ∃ b0, b0 = al := ⟨_, rfl⟩
    subst hb0
    clear hP hZ hpin hqin
    have hPin' := hPin
    have hZin' := hZin
    obtain ⟨p1, p2, p3, p4⟩ := hPin'
    obtain ⟨z1, z2, z3, z4⟩ := hZin'
    refine W_loopB [6, 7, 8, 35, 36, 37, 38, 39, 40, 41, 42, 43, 44, 45, 46, 47, 48, 49, 50, 51, 52, 53, 54, 55, 56, 57, 58, 59, 60, 61, 62, 63, 64, 65, 66, 67, 68, 69, 70, 71, 72, 73, 74, 75, 76, 77, 78, 79, 80, 81, 82, 83, 84, 85, 86, 87, 88, 89, 90] [0, 1, 2, 3, 4, 5, 6, 7, 8, 9, 10, 11, 12, 13, 14, 15, 16, 17, 18, 19, 20, 21, 22, 23, 24, 25, 26, 27, 28, 29, 30, 31, 32, 33, 34, 35, 36, 37, 38, 39, 40, 41, 42, 43, 44, 45, 46, 47, 48, 49, 50, 51, 52, 53, 54, 55, 56, 57, 58, 59, 60, 61, 62, 63, 64, 65, 66, 67, 68, 69, 70, 71, 72, 73, 74, 75, 76, 77, 78, 79, 80, 81, 82, 83, 84, 85, 86, 87, 88, 89, 90, 91] (fun n' sl h' => ∃ (n : Nat) (p bu : SV) (c : Hp), sl = [(6, .sc (.int .i64 (P.2 + (n : Int))))] ∧ n' = (Z.2 - P.2 + 1).toNat - n ∧ n ≤ (Z.2 - P.2 + 1).toNat ∧ Bld b0 p bu (linesT v.L P Z n) c ∧ Sep R ([(b0, .cells 83 .own [p, bu])] :: c :: [(b4, .cells 58 .own [.int .i64 Z.1, .int .i64 Z.2])] :: [(b3, .cells 58 .own [.int .i64 P.1, .int .i64 P.2])] :: vwO id lv (.ptr idm 0) v :: M) h') ?_ ?_
    · refine ⟨_, _, ⟨0, .nilp, .nils, [], rfl, rfl, Nat.zero_le _, ⟨.inl rfl, AccS.nil _, fun _ => rfl⟩, ?_⟩, atI (show P.2 = P.2 + ((0 : Nat) : Int) by omega) (EnvB.of rfl)⟩
      exact hs.sublist (by simp)
    clear hs
    rintro _ _ us2 _ h4 ⟨n, p, bu, c, rfl, rfl, hn, hB, hs⟩ he
    refine W_spell he rfl ?_
    clear he
    unfold m16_l9
    by_cases hlt : n < (Z.2 - P.2 + 1).toNat
    · have hll := linesT_length ok.l hPin hZin n (by omega)
      obtain ⟨Y, hY⟩ : ∃ Y : Nat, P.2 + (n : Int) = (Y : Int) := ⟨(P.2 + (n : Int)).toNat, by omega⟩
      have hYL : Y < v.L.length := by omega
      have hYG : Y < G.length := by omega
      have hrow := hG.lns.at hYG
      have hrl := hrow.ln
      have hw := wid_at hG.map hYG
      have hwl := ok.l.wid (y := (Y : Int)) (by omega) (by omega)
      obtain ⟨F, hF⟩ : ∃ F : Nat, (F : Int) = if (Y : Int) = P.2 then P.1 else 0 := ⟨(if (Y : Int) = P.2 then P.1 else 0).toNat, by split <;> omega⟩
      obtain ⟨T, hT⟩ : ∃ T : Int, T = if (Y : Int) = Z.2 then Z.1 else wid v.L Y - 1 := ⟨_, rfl⟩
      rw [hY]
      repeat' (first
        | (refine K_ops ?_; first
          | refine W_fastB rfl ?_
          | refine W_nil ?_
          | (refine W_lenL rfl (by first | assumption | exact SlR.ln (by assumption) | exact AccS.ln (by assumption) | exact OwnS.ln (by assumption) | exact VwO.ln (by assumption) | exact OwnP.ln (by assumption) | exact Len.sl) ?_; refine W_norm rfl ?_)
          | (refine K_bin ?_; first
            | (refine W_sub rfl rfl (IntWalk.i64_in _ (by first | omega | (simp only [List.length_set, List.length_append, List.length_take, List.length_drop, List.length_replicate, List.length_cons, List.length_nil, decs_length, List.length_map]; omega))) ?_; refine W_norm rfl ?_)
          )
          | (refine K_index ?_; first
            | (refine W_indexR rfl rfl (by assumption) rfl ⟨(by first | omega | (simp only [List.length_set, List.length_append, List.length_take, List.length_drop, List.length_replicate, List.length_cons, List.length_nil, decs_length, List.length_map]; omega)), (by first | omega | (simp only [List.length_set, List.length_append, List.length_take, List.length_drop, List.length_replicate, List.length_cons, List.length_nil, decs_length, List.length_map]; omega))⟩ ?_; intro _ _ _; refine W_norm rfl ?_)
          )
          | (refine K_load ?_; first
            | (refine W_loadR hs rfl (by assumption) rfl ?_; refine W_norm rfl ?_)
            | (refine W_loadC hs 2 rfl rfl rfl ?_; refine W_norm rfl ?_)
            | (refine W_loadC hs 3 rfl rfl rfl ?_; refine W_norm rfl ?_)
            | (refine W_loadC hs 4 rfl rfl rfl ?_; refine W_norm rfl ?_)
          )
        )
        | (refine K_code ?_; first
          | (refine W_midB (a := .seq (.ops m16_r12) _) [7, 8, 41, 42, 43, 44, 45, 46, 47, 48, 49, 50, 51, 52, 53, 54, 55, 56] [0, 1, 2, 3, 4, 5, 6, 7, 8, 9, 10, 11, 12, 13, 14, 15, 16, 17, 18, 19, 20, 21, 22, 23, 24, 25, 26, 27, 28, 29, 30, 31, 32, 33, 34, 35, 36, 37, 38, 39, 40, 41, 42, 43, 44, 45, 46, 47, 48, 49, 50, 51, 52, 53, 54, 55, 56, 57, 58, 59, 60, 61, 62, 63, 64, 65, 66, 67, 68, 69, 70, 71, 72, 73, 74, 75, 76, 77, 78, 79, 80, 81, 82, 83, 84, 85, 86, 87, 88, 89, 90, 91] (fun sl h' => sl = [(7, .sc (.int .i64 (F : Int))), (8, .sc (.int .i64 (((atC G Y).length : Int) - 1)))] ∧ Sep R ([(b0, .cells 83 .own [p, bu])] :: c :: [(b4, .cells 58 .own [.int .i64 Z.1, .int .i64 Z.2])] :: [(b3, .cells 58 .own [.int .i64 P.1, .int .i64 P.2])] :: vwO id lv (.ptr idm 0) v :: M) h') ?_ ?_)
          | refine W_seq ?_
          | refine W_ops ?_
          | (refine W_cond rfl (fun hc => ?_) (fun hc => ?_) <;> (try rw [hc]) <;> (try simp only [decide_eq_true_eq, decide_eq_false_iff_not, beq_iff_eq, beq_eq_false_iff_ne, bne_iff_ne, bne_eq_false_iff_eq, Bool.not_eq_true', Bool.not_eq_false', Int.not_lt, Int.not_le, ne_eq, reduceCtorEq, not_true_eq_false, not_false_eq_true, Decidable.not_not] at hc) <;> (try (exfalso; omega)) <;> (try refine W_norm rfl ?_))
          | refine W_skip ?_
          | refine W_block ?_
          | refine W_draw rfl ?_
        )
        | refine seqK_n ?_
        | refine midK_n ?_)
      · rw [show (F : Int) = P.1 by rw [hF, if_pos hc]]
        exact ⟨_, ⟨rfl, hs⟩, EnvB.of rfl⟩
      · rw [show (F : Int) = 0 by rw [hF, if_neg hc]]
        exact ⟨_, ⟨rfl, hs⟩, EnvB.of rfl⟩
      clear hs
      rintro _ us3 _ h5 ⟨rfl, hs⟩ he
      refine W_spell he rfl ?_
      clear he
      repeat' (first
        | (refine K_ops ?_; first
          | refine W_fastB rfl ?_
          | refine W_nil ?_
          | (refine K_load ?_; first
            | (refine W_loadC hs 2 rfl rfl rfl ?_; refine W_norm rfl ?_)
          )
        )
        | (refine K_code ?_; first
          | (refine W_midB (a := .seq (.ops m16_r14) _) [8, 57, 58, 59, 60, 61, 62] [0, 1, 2, 3, 4, 5, 6, 7, 8, 9, 10, 11, 12, 13, 14, 15, 16, 17, 18, 19, 20, 21, 22, 23, 24, 25, 26, 27, 28, 29, 30, 31, 32, 33, 34, 35, 36, 37, 38, 39, 40, 41, 42, 43, 44, 45, 46, 47, 48, 49, 50, 51, 52, 53, 54, 55, 56, 57, 58, 59, 60, 61, 62, 63, 64, 65, 66, 67, 68, 69, 70, 71, 72, 73, 74, 75, 76, 77, 78, 79, 80, 81, 82, 83, 84, 85, 86, 87, 88, 89, 90, 91] (fun sl h' => sl = [(8, .sc (.int .i64 T))] ∧ Sep R ([(b0, .cells 83 .own [p, bu])] :: c :: [(b4, .cells 58 .own [.int .i64 Z.1, .int .i64 Z.2])] :: [(b3, .cells 58 .own [.int .i64 P.1, .int .i64 P.2])] :: vwO id lv (.ptr idm 0) v :: M) h') ?_ ?_)
          | refine W_seq ?_
          | refine W_ops ?_
          | (refine W_cond rfl (fun hc => ?_) (fun hc => ?_) <;> (try rw [hc]) <;> (try simp only [decide_eq_true_eq, decide_eq_false_iff_not, beq_iff_eq, beq_eq_false_iff_ne, bne_iff_ne, bne_eq_false_iff_eq, Bool.not_eq_true', Bool.not_eq_false', Int.not_lt, Int.not_le, ne_eq, reduceCtorEq, not_true_eq_false, not_false_eq_true, Decidable.not_not] at hc) <;> (try (exfalso; omega)) <;> (try refine W_norm rfl ?_))
          | refine W_skip ?_
        )
        | refine seqK_n ?_
        | refine midK_n ?_)
      · rw [show T = Z.1 by rw [hT, if_pos hc]]
        exact ⟨_, ⟨rfl, hs⟩, EnvB.of rfl⟩
      · rw [show T = ((atC G Y).length : Int) - 1 by rw [hT, if_neg hc, hw]]
        exact ⟨_, ⟨rfl, hs⟩, EnvB.of rfl⟩
      clear hs
      rintro _ us4 _ h6 ⟨rfl, hs⟩ he
      refine W_spell he rfl ?_
      clear he
      obtain ⟨S, hS⟩ : ∃ S : List UInt8, S = linesT v.L P Z n ++ (if P.2 < (Y : Int) ∧ (v.L.getD ((Y : Int) - 1).toNat ln0).joined = false then [10] else []) := ⟨_, rfl⟩
      have hll2 : (linesT v.L P Z n).length ≤ 900 * 4001 := Nat.le_trans hll (Nat.mul_le_mul_right _ (by omega))
      repeat' (first
        | (refine K_ops ?_; first
          | refine W_fastB rfl ?_
          | refine W_nil ?_
          | (refine K_guard ?_; first
            | refine W_guard_on rfl ?_
            | refine W_guard_off rfl rfl (W_norm rfl ?_)
            | (refine W_guardT rfl (fun hc => ?_) (fun hc => ?_) <;> (try rw [hc]) <;> (try simp only [decide_eq_true_eq, decide_eq_false_iff_not, beq_iff_eq, beq_eq_false_iff_ne, bne_iff_ne, bne_eq_false_iff_eq, Bool.not_eq_true', Bool.not_eq_false', Int.not_lt, Int.not_le, ne_eq, reduceCtorEq, not_true_eq_false, not_false_eq_true, Decidable.not_not] at hc) <;> (try (exfalso; omega)) <;> (try refine W_norm rfl ?_))
          )
          | (refine K_call ?_; first
            | (refine W_callsN 37 rfl (w37 hs hB (by omega)) rfl ?_; rintro _ h7 ⟨rfl, p', u', c', hb', hs⟩; refine W_norm rfl ?_)
          )
          | (refine K_bin ?_; first
            | (refine W_sub rfl rfl (IntWalk.i64_in _ (by first | omega | (simp only [List.length_set, List.length_append, List.length_take, List.length_drop, List.length_replicate, List.length_cons, List.length_nil, decs_length, List.length_map]; omega))) ?_; refine W_norm rfl ?_)
          )
          | (refine K_pick ?_; first
            | refine W_pick_t rfl rfl (W_norm rfl ?_)
            | refine W_pick_f rfl rfl (W_norm rfl ?_)
          )
          | (refine K_index ?_; first
            | (refine W_indexR rfl rfl (by assumption) rfl ⟨(by first | omega | (simp only [List.length_set, List.length_append, List.length_take, List.length_drop, List.length_replicate, List.length_cons, List.length_nil, decs_length, List.length_map]; omega)), (by first | omega | (simp only [List.length_set, List.length_append, List.length_take, List.length_drop, List.length_replicate, List.length_cons, List.length_nil, decs_length, List.length_map]; omega))⟩ ?_; intro _ _ _; refine W_norm rfl ?_)
          )
          | (refine K_load ?_; first
            | (refine W_loadRF hs rfl (by assumption) rfl ?_; refine W_norm rfl ?_)
            | (refine W_loadC hs 3 rfl rfl rfl ?_; refine W_norm rfl ?_)
            | (refine W_loadC hs 4 rfl rfl rfl ?_; refine W_norm rfl ?_)
          )
        )
        | (refine K_code ?_; first
          | (refine W_midB (a := .seq (.ops m16_r16) _) [63, 64, 65, 66, 67, 68, 69, 70, 71, 72, 73, 74, 75, 76, 77, 78, 79] [0, 1, 2, 3, 4, 5, 6, 7, 8, 9, 10, 11, 12, 13, 14, 15, 16, 17, 18, 19, 20, 21, 22, 23, 24, 25, 26, 27, 28, 29, 30, 31, 32, 33, 34, 35, 36, 37, 38, 39, 40, 41, 42, 43, 44, 45, 46, 47, 48, 49, 50, 51, 52, 53, 54, 55, 56, 57, 58, 59, 60, 61, 62, 63, 64, 65, 66, 67, 68, 69, 70, 71, 72, 73, 74, 75, 76, 77, 78, 79, 80, 81, 82, 83, 84, 85, 86, 87, 88, 89, 90, 91] (fun sl h' => ∃ (p bu : SV) (c : Hp), sl = [] ∧ Bld b0 p bu S c ∧ Sep R ([(b0, .cells 83 .own [p, bu])] :: c :: [(b4, .cells 58 .own [.int .i64 Z.1, .int .i64 Z.2])] :: [(b3, .cells 58 .own [.int .i64 P.1, .int .i64 P.2])] :: vwO id lv (.ptr idm 0) v :: M) h') ?_ ?_)
          | refine W_seq ?_
          | refine W_ops ?_
          | refine W_cond_f rfl ?_
          | (refine W_cond rfl (fun hc => ?_) (fun hc => ?_) <;> (try rw [hc]) <;> (try simp only [decide_eq_true_eq, decide_eq_false_iff_not, beq_iff_eq, beq_eq_false_iff_ne, bne_iff_ne, bne_eq_false_iff_eq, Bool.not_eq_true', Bool.not_eq_false', Int.not_lt, Int.not_le, ne_eq, reduceCtorEq, not_true_eq_false, not_false_eq_true, Decidable.not_not] at hc) <;> (try (exfalso; omega)) <;> (try refine W_norm rfl ?_))
          | refine W_skip ?_
        )
        | refine seqK_n ?_
        | refine midK_n ?_)
      · rw [show S = linesT v.L P Z n ++ [10] by rw [hS, if_pos ⟨by omega, by rw [joined_at hG.map (by omega)]; exact hc⟩]]
        exact ⟨_, ⟨_, _, _, rfl, hb', hs⟩, EnvB.of rfl⟩
      · rw [show S = linesT v.L P Z n by rw [hS, if_neg (by rintro ⟨e1, e2⟩; rw [joined_at hG.map (by omega), hc] at e2; cases e2), List.append_nil]]
        exact ⟨_, ⟨_, _, _, rfl, hB, hs⟩, EnvB.of rfl⟩
      · rw [show S = linesT v.L P Z n by rw [hS, if_neg (by rintro ⟨e1, e2⟩; omega), List.append_nil]]
        exact ⟨_, ⟨_, _, _, rfl, hB, hs⟩, EnvB.of rfl⟩
      clear hs hB
      rintro _ us5 _ h8 ⟨p, bu, c, rfl, hB, hs⟩ he
      refine W_spell he rfl ?_
      clear he
      have hSl : S.length ≤ 900 * 4001 + 1 := by
        rw [hS, List.length_append]
        split
        · simp only [List.length_cons, List.length_nil]; omega
        · simp only [List.length_nil]; omega
      have hcl := ok.l.cells (atL G Y) (by rw [← hG.map]; exact List.mem_of_getElem? (lnOf_atH hYG))
      have hcr := ok.l.runes (atL G Y) (by rw [← hG.map]; exact List.mem_of_getElem? (lnOf_atH hYG))
      have hFle : F ≤ (atC G Y).length := by
        have : (F : Int) ≤ wid v.L Y := by
          rw [hF]
          split
          · rename_i e; rw [e]; omega
          · omega
        omega
      have hTle : 0 ≤ T ∧ T < ((atC G Y).length : Int) := by
        rw [← hw, hT]
        split
        · rename_i e; rw [e]; exact ⟨z3, z4⟩
        · omega
      have hpe : partT (v.L.getD ((Y : Int)).toNat ln0) F T = partT ⟨atC G Y, (atH G Y).j, (atH G Y).s⟩ F T := by rw [Int.toNat_natCast, line_at hG.map hYG]
      have hpl := partT_length ok.l (y := (Y : Int)) (a := (F : Int)) (b := T) (by omega) (by omega) (by omega) (by omega)
      rw [hpe] at hpl
      have hrw : linesT v.L P Z (n + 1) = S ++ partT ⟨atC G Y, (atH G Y).j, (atH G Y).s⟩ F T := by
        rw [linesT_succ, hY, hS, List.append_assoc, ← hpe]
        congr 1
        unfold rowT
        rw [← hF, ← hT]
      repeat' (first
        | (refine K_ops ?_; first
          | refine W_fastB rfl ?_
          | refine W_nil ?_
          | (refine K_call ?_; first
            | (refine W_callsN 39 rfl (w39 (g := atH G Y) (C := atC G Y) (A := F) (b := T) (SlR.now hs hrow) hcl.1 hcl.2 hcr hFle hTle) rfl ?_; rintro _ h9 ⟨rfl, t⟩; replace hs := hs.call t; try simp only [cell_back, attr_back, List.set_cons_zero, List.set_cons_succ, List.eraseIdx_cons_succ, List.eraseIdx_zero, List.tail_cons, List.nil_append, List.cons_append] at hs; refine W_norm rfl ?_)
            | (refine W_callsN 38 rfl (w38 hs hB (by omega)) rfl ?_; rintro _ h9 ⟨rfl, p', u', c', hb', hs⟩; refine W_norm rfl ?_)
          )
          | (refine K_bin ?_; first
            | (refine W_add rfl rfl (IntWalk.i64_in _ (by first | omega | (simp only [List.length_set, List.length_append, List.length_take, List.length_drop, List.length_replicate, List.length_cons, List.length_nil, decs_length, List.length_map]; omega))) ?_; refine W_norm rfl ?_)
          )
          | (refine K_index ?_; first
            | (refine W_indexR rfl rfl (by assumption) rfl ⟨(by first | omega | (simp only [List.length_set, List.length_append, List.length_take, List.length_drop, List.length_replicate, List.length_cons, List.length_nil, decs_length, List.length_map]; omega)), (by first | omega | (simp only [List.length_set, List.length_append, List.length_take, List.length_drop, List.length_replicate, List.length_cons, List.length_nil, decs_length, List.length_map]; omega))⟩ ?_; intro _ _ _; refine W_norm rfl ?_)
          )
          | (refine K_load ?_; first
            | (refine W_loadRA hs rfl (by assumption) rfl ?_; refine W_norm rfl ?_)
            | (refine W_loadC hs 4 rfl rfl rfl ?_; refine W_norm rfl ?_)
          )
        )
        | (refine K_code ?_; first
          | refine W_ops ?_
        )
        | refine seqK_n ?_
        | refine blockK_n ?_
        | refine invK_n ?_)
      rw [← hrw] at hb'
      refine ⟨_, ?_, _, ⟨n + 1, p', u', c', rfl, rfl, ?_, hb', hs⟩, atI (show (Y : Int) + 1 = P.2 + ((n + 1 : Nat) : Int) by omega) (EnvB.of rfl)⟩
      · omega
      · omega
    · obtain rfl : n = (Z.2 - P.2 + 1).toNat := by omega
      have hll := linesT_length ok.l hPin hZin (Z.2 - P.2 + 1).toNat (by omega)
      have hll2 : (linesT v.L P Z (Z.2 - P.2 + 1).toNat).length ≤ 900 * 4001 := Nat.le_trans hll (Nat.mul_le_mul_right _ (by omega))
      repeat' (first
        | (refine K_ops ?_; first
          | refine W_fastB rfl ?_
          | refine W_nil ?_
          | (refine K_call ?_; first
            | (refine W_callsN 40 rfl (w40 hs hB (by omega)) rfl ?_; rintro _ h5 ⟨rfl, hs⟩; refine W_norm rfl ?_)
          )
          | (refine K_load ?_; first
            | (refine W_loadC hs 2 rfl rfl rfl ?_; refine W_norm rfl ?_)
          )
        )
        | (refine K_code ?_; first
          | refine W_seq ?_
          | refine W_ops ?_
          | (refine W_cond rfl (fun hc => ?_) (fun hc => ?_) <;> (try rw [hc]) <;> (try simp only [decide_eq_true_eq, decide_eq_false_iff_not, beq_iff_eq, beq_eq_false_iff_ne, bne_iff_ne, bne_eq_false_iff_eq, Bool.not_eq_true', Bool.not_eq_false', Int.not_lt, Int.not_le, ne_eq, reduceCtorEq, not_true_eq_false, not_false_eq_true, Decidable.not_not] at hc) <;> (try (exfalso; omega)) <;> (try refine W_norm rfl ?_))
          | refine W_ret ?_
          | refine W_exit ?_
        )
        | refine seqK_n ?_
        | refine seqK_x ?_
        | refine blockK_e ?_
        | refine invK_x ?_
        | (refine fnK_r rfl ?_; try dsimp only [gd_z, gd_s]))
      exact ⟨_, rfl, rfl, ((hs.drop 0).drop 0).drop 0⟩
end Go.Proofs.YtbkhjpclnfljbaaDoor
