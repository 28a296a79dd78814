import Derived.Test.YtfmldkjidfigbaaDoorJxM25D
/- Compose: the banner's row. -/
set_option linter.unusedSimpArgs false
set_option linter.unusedVariables false
set_option maxHeartbeats 1000000
set_option maxRecDepth 100000
namespace Go.Proofs.YtfmldkjidfigbaaDoor
open Go Go.Jx

def bannerP (s : List UInt8) (n k : Nat) : List Cell := (List.range k).map (bannerC s) ++ List.replicate (n - k) (blankC revA)
theorem bannerP_length {s : List UInt8} {n k : Nat} (h : k ≤ n) : (bannerP s n k).length = n := by simp [bannerP]; omega
theorem bannerP_get {s : List UInt8} {n k : Nat} (h : k < n) : (bannerP s n k).getD k cell0 = blankC revA := by
  unfold bannerP
  rw [List.getD_eq_getElem?_getD, List.getElem?_append_right (by simp)]
  simp only [List.length_map, List.length_range, Nat.sub_self, List.getElem?_replicate]
  rw [if_pos (by omega)]; rfl
theorem bannerP_set {s : List UInt8} {n k : Nat} (h : k < n) : (bannerP s n k).set k (bannerC s k) = bannerP s n (k + 1) := by
  unfold bannerP
  rw [List.set_append_right _ _ (by simp), List.length_map, List.length_range, Nat.sub_self, show n - k = (n - (k + 1)) + 1 by omega, List.replicate_succ, List.set_cons_zero, List.range_succ, List.map_append]
  simp
theorem bannerP_end {s : List UInt8} {n k : Nat} (h : k ≤ n) (hk : k = n ∨ s.length ≤ k) : bannerP s n k = bannerL s n := by
  apply List.ext_getElem?
  intro i
  unfold bannerP bannerL
  rw [List.getElem?_append, List.length_map, List.length_range]
  by_cases hi : i < k
  · rw [if_pos hi, List.getElem?_map, List.getElem?_map, List.getElem?_range hi, List.getElem?_range (by omega)]
  · rw [if_neg hi, List.getElem?_replicate, List.getElem?_map]
    by_cases hn : i < n
    · rw [if_pos (by omega), List.getElem?_range hn]
      unfold bannerC
      rw [Option.map_some, if_neg (by omega)]
    · rw [if_neg (by omega), List.getElem?_eq_none (by rw [List.length_range]; omega)]; rfl
theorem w20 {s : List UInt8} {n : Int} {h : Heap} (hn : 1 ≤ n ∧ n ≤ 400) (hsl : s.length ≤ 9223372036854775807) : Wc DD 20 [.sc (.str s), i64 n] h fun v h' => ∃ u c, v = .sc u ∧ AccS cellE 34 u (bannerL s n.toNat) c ∧ Sep (Now h) [c] h' := by
  have hs := Sep.entry h
  refine W_enter d20 ?_
  show W _ (.code m20_code [.sc (.str s), i64 n, undefA, undefA, undefA, undefA, undefA, undefA, undefA, undefA, undefA, undefA, undefA, undefA, undefA, undefA, undefA, undefA, undefA, undefA, undefA, undefA, undefA, undefA, undefA, undefA, undefA, undefA, undefA, undefA, undefA, undefA, undefA, undefA, undefA, undefA, undefA, undefA, undefA, undefA, undefA, undefA, undefA] _) _
  unfold m20_code
  repeat' (first
    | (refine K_ops ?_; first
      | refine W_fastB rfl ?_
      | refine W_nil ?_
      | (refine K_call ?_; first
        | (refine W_callsN 17 rfl (w17 _ revA _) rfl ?_; rintro _ h3 ⟨u, c, rfl, ha, t⟩; replace hs := hs.call t; try simp only [cell_back, attr_back, List.set_cons_zero, List.set_cons_succ, List.eraseIdx_cons_succ, List.eraseIdx_zero, List.tail_cons, List.nil_append, List.cons_append] at hs; refine W_norm rfl ?_)
      )
      | (refine K_load ?_; first
        | (refine W_loadCA hs 0 rfl rfl rfl ?_; refine W_norm rfl ?_)
      )
      | (refine K_store ?_; first
        | (refine W_storeC hs 0 rfl rfl rfl rfl (by first | decide | assumption) rfl rfl ?_; clear hs; intro _ hs; try simp only [cell_back, attr_back, List.set_cons_zero, List.set_cons_succ, List.eraseIdx_cons_succ, List.eraseIdx_zero, List.tail_cons, List.nil_append, List.cons_append] at hs; refine W_norm rfl ?_)
      )
      | (refine W_allocS hs ?_; clear hs; intro al _ hs; try simp only [cell_back, attr_back, List.set_cons_zero, List.set_cons_succ, List.eraseIdx_cons_succ, List.eraseIdx_zero, List.tail_cons, List.nil_append, List.cons_append] at hs; refine W_norm rfl ?_)
      | (refine W_buildN rfl ?_; refine W_norm rfl ?_)
      | (refine W_min2 rfl rfl ?_; refine W_norm rfl ?_)
    )
    | (refine K_code ?_; first
      | refine W_seq ?_
      | refine W_ops ?_
      | refine W_block ?_
    )
    | refine seqK_n ?_)
  rw [if_pos hn] at ha
  obtain ⟨id, kd, rfl, rfl, hk⟩ := ha.pos (by rw [List.length_replicate]; omega)
  rw [List.length_replicate] at *
  replace hs : Sep (Now h) [[(id, .cells 34 kd ((bannerP s n.toNat 0).flatMap cellE.enc))]] h3 := hs.hd.same (by simp [bannerP])
  refine W_loopB [7, 16, 17, 18, 19, 20, 21, 22, 23, 24, 25, 26, 27, 28, 29, 30, 31, 32, 33, 34, 35, 36, 37, 38, 39, 40, 41] [0, 1, 2, 3, 4, 5, 6, 7, 8, 9, 10, 11, 12, 13, 14, 15, 16, 17, 18, 19, 20, 21, 22, 23, 24, 25, 26, 27, 28, 29, 30, 31, 32, 33, 34, 35, 36, 37, 38, 39, 40, 41, 42] (fun n' sl h' => ∃ (k : Nat), sl = [(0, .sc (.str s)), (6, .sc (.slice id 0 n.toNat n.toNat)), (15, .sc (.int .i64 (min (s.length : Int) n))), (16, .sc (.int .i64 (k : Int)))] ∧ n' = n.toNat - k ∧ (k : Int) ≤ min (s.length : Int) n ∧ Sep (Now h) [[(id, .cells 34 kd ((bannerP s n.toNat k).flatMap cellE.enc))]] h') ?_ ?_
  · refine ⟨_, _, ⟨0, rfl, rfl, by omega, hs⟩, EnvB.of rfl⟩
  clear hs
  rintro _ _ us _ h4 ⟨k, rfl, rfl, hkn, hs⟩ he
  refine W_spell he rfl ?_
  clear he
  unfold m20_l4
  by_cases hlt : (k : Int) < min (s.length : Int) n
  · have hpl := bannerP_length (s := s) (show k ≤ n.toNat by omega)
    have hg : (bannerP s n.toNat k).getD k cellE.dflt = blankC revA := bannerP_get (by omega)
    have hg2 : ∀ C : Cell, ((bannerP s n.toNat k).set k C).getD k cellE.dflt = C := fun C => by
      rw [List.getD_eq_getElem?_getD, List.getElem?_set_self (by omega)]; rfl
    have hb8 : (s.getD k 0).toNat < 256 := UInt8.toNat_lt _
    repeat' (first
      | (refine K_ops ?_; first
        | refine W_fastB rfl ?_
        | refine W_nil ?_
        | (refine K_guard ?_; first
          | refine W_guard_on rfl ?_
          | refine W_guard_off rfl rfl (W_norm rfl ?_)
          | (refine W_guardT rfl (fun hc => ?_) (fun hc => ?_) <;> (try rw [hc]) <;> (try simp only [decide_eq_true_eq, decide_eq_false_iff_not, beq_iff_eq, beq_eq_false_iff_ne, bne_iff_ne, bne_eq_false_iff_eq, Bool.not_eq_true', Bool.not_eq_false', Int.not_lt, Int.not_le, ne_eq, reduceCtorEq, not_true_eq_false, not_false_eq_true, Decidable.not_not] at hc) <;> (try (exfalso; omega)) <;> (try refine W_norm rfl ?_))
        )
        | (refine K_bin ?_; first
          | (refine W_add rfl rfl (IntWalk.i64_in _ (by first | omega | (simp only [List.length_set, List.length_append, List.length_take, List.length_drop, List.length_replicate, List.length_cons, List.length_nil, decs_length, List.length_map]; omega))) ?_; refine W_norm rfl ?_)
        )
        | (refine K_pick ?_; first
          | refine W_pick_t rfl rfl (W_norm rfl ?_)
          | refine W_pick_f rfl rfl (W_norm rfl ?_)
        )
        | (refine K_index ?_; first
          | (refine W_indexO rfl rfl ⟨(by first | omega | (simp only [List.length_set, List.length_append, List.length_take, List.length_drop, List.length_replicate, List.length_cons, List.length_nil, decs_length, List.length_map]; omega)), (by first | omega | (simp only [List.length_set, List.length_append, List.length_take, List.length_drop, List.length_replicate, List.length_cons, List.length_nil, decs_length, List.length_map]; omega))⟩ ?_; refine W_norm rfl ?_)
        )
        | (refine K_store ?_; first
          | (refine W_storeOF hs 0 rfl rfl rfl rfl rfl (by first | omega | (simp only [List.length_set, List.length_append, List.length_take, List.length_drop, List.length_replicate, List.length_cons, List.length_nil, decs_length, List.length_map]; omega)) (by first | decide | assumption) rfl rfl rfl rfl ?_; clear hs; intro _ hs; try simp only [cell_back, attr_back, List.set_cons_zero, List.set_cons_succ, List.eraseIdx_cons_succ, List.eraseIdx_zero, List.tail_cons, List.nil_append, List.cons_append] at hs; refine W_norm rfl ?_)
        )
        | (refine W_convint rfl (IntWalk.i32_in _ (by omega)) ?_; refine W_norm rfl ?_)
        | (refine W_idxStr rfl rfl ⟨(by first | omega | (simp only [List.length_set, List.length_append, List.length_take, List.length_drop, List.length_replicate, List.length_cons, List.length_nil, decs_length, List.length_map]; omega)), (by first | omega | (simp only [List.length_set, List.length_append, List.length_take, List.length_drop, List.length_replicate, List.length_cons, List.length_nil, decs_length, List.length_map]; omega))⟩ ?_; refine W_norm rfl ?_)
      )
      | (refine K_code ?_; first
        | refine W_seq ?_
        | refine W_ops ?_
        | refine W_cond_f rfl ?_
        | (refine W_cond rfl (fun hc => ?_) (fun hc => ?_) <;> (try rw [hc]) <;> (try simp only [decide_eq_true_eq, decide_eq_false_iff_not, beq_iff_eq, beq_eq_false_iff_ne, bne_iff_ne, bne_eq_false_iff_eq, Bool.not_eq_true', Bool.not_eq_false', Int.not_lt, Int.not_le, ne_eq, reduceCtorEq, not_true_eq_false, not_false_eq_true, Decidable.not_not] at hc) <;> (try (exfalso; omega)) <;> (try refine W_norm rfl ?_))
        | refine W_skip ?_
        | refine W_block ?_
      )
      | refine seqK_n ?_
      | refine blockK_n ?_
      | refine invK_n ?_)
    all_goals simp only [Int.toNat_natCast] at *
    all_goals simp only [hg, hg2, List.set_set, cell_dec] at hs
    all_goals refine ⟨_, ?_, _, ⟨k + 1, rfl, rfl, ?_, ?_⟩, EnvB.of rfl⟩
    all_goals first
      | omega
      | (rw [← bannerP_set (by omega), show bannerC s k = ⟨((s.getD k 0).toNat : Int), 0, revA⟩ from by unfold bannerC; rw [if_pos (by omega), if_pos (by omega)]]; exact hs)
      | (rw [← bannerP_set (by omega), show bannerC s k = ⟨63, 0, revA⟩ from by unfold bannerC; rw [if_pos (by omega), if_neg (by omega)]]; exact hs)
  · repeat' (first
      | (refine K_ops ?_; first
        | refine W_fastB rfl ?_
        | refine W_nil ?_
      )
      | (refine K_code ?_; first
        | refine W_seq ?_
        | refine W_ops ?_
        | (refine W_cond rfl (fun hc => ?_) (fun hc => ?_) <;> (try rw [hc]) <;> (try simp only [decide_eq_true_eq, decide_eq_false_iff_not, beq_iff_eq, beq_eq_false_iff_ne, bne_iff_ne, bne_eq_false_iff_eq, Bool.not_eq_true', Bool.not_eq_false', Int.not_lt, Int.not_le, ne_eq, reduceCtorEq, not_true_eq_false, not_false_eq_true, Decidable.not_not] at hc) <;> (try (exfalso; omega)) <;> (try refine W_norm rfl ?_))
        | refine W_ret ?_
        | refine W_exit ?_
      )
      | refine seqK_n ?_
      | refine seqK_x ?_
      | refine blockK_e ?_
      | refine invK_x ?_
      | (refine fnK_r rfl ?_; try dsimp only [gd_z, gd_s]))
    rw [bannerP_end (by omega) (by omega)] at hs
    exact ⟨_, rfl, _, _, rfl, AccS.again hk (by simp [bannerL]), hs⟩
end Go.Proofs.YtfmldkjidfigbaaDoor
/- Compose: the loops of Compose. -/
set_option linter.unusedSimpArgs false
set_option linter.unusedVariables false
set_option maxHeartbeats 1000000
set_option maxRecDepth 100000
namespace Go.Proofs.YtfmldkjidfigbaaDoor
open Go Go.Jx

structure ViewV where
  w : Int
  h : Int
  ps : SV
  bs : SV
  bn : List UInt8
  x : Int
  y : Int
  cur : Bool
def viewL (v : ViewV) : List SV := [.int .i64 v.w, .int .i64 v.h, v.ps, v.bs, .str v.bn, .int .i64 v.x, .int .i64 v.y, .bool v.cur]
def matL (w h : Int) (u : SV) (c : Curs) : List SV := [.int .i64 w, .int .i64 h, u, .int .i64 c.x, .int .i64 c.y, .bool c.v]
abbrev bvO (bv : Nat) (v : ViewV) : Hp := [(bv, .cells 25 .own (viewL v))]
abbrev maO (mid : Nat) (w h : Int) (u : SV) (c : Curs) : Hp := [(mid, .cells 42 .own (matL w h u c))]

theorem comp_rows {R : Ro} {M : List Hp} {h : Heap} {e : List AV} {pid bv res : Nat} {Z : Rc} {v : ViewV} (hs : Sep R (pgO pid Z .nils :: bvO bv v :: M) h) (hw : 1 ≤ v.w ∧ v.w ≤ 400) (hh : 1 ≤ v.h ∧ v.h ≤ 400)
    (he : EnvIs 133 [(1, .sc (.ptr bv 0)), (2, .sc (.ptr res 0)), (3, i64 0), (4, .sc (.ptr pid 0))] e) :
    W DD (.code (.seq (.ops m8_r4) (.block 0 (.loop m8_l5))) e h) (fun x e' h' => ∃ rv c H, x = .normal ∧ NsO cellE 34 35 rv H c ∧ H.map Hd.L = List.replicate (v.h - 1).toNat (List.replicate v.w.toNat (blankC attr0)) ∧ Sep R (pgO pid Z rv :: c :: hpOf H :: bvO bv v :: M) h' ∧ EnvIs 133 [(1, .sc (.ptr bv 0)), (2, .sc (.ptr res 0)), (3, i64 0), (4, .sc (.ptr pid 0))] e') := by
  obtain ⟨us, rfl⟩ := he.list
  repeat' (first
    | (refine K_ops ?_; first
      | refine W_fastB rfl ?_
      | refine W_nil ?_
      | (refine K_bin ?_; first
        | (refine W_sub rfl rfl (IntWalk.i64_in _ (by first | omega | (simp only [List.length_set, List.length_append, List.length_take, List.length_drop, List.length_replicate, List.length_cons, List.length_nil, decs_length, List.length_map]; omega))) ?_; refine W_norm rfl ?_)
      )
      | (refine K_load ?_; first
        | (refine W_loadC hs 1 rfl rfl rfl ?_; refine W_norm rfl ?_)
      )
    )
    | (refine K_code ?_; first
      | refine W_seq ?_
      | refine W_ops ?_
      | refine W_block ?_
    )
    | refine seqK_n ?_)
  refine W_loopB [38, 39, 40, 41, 42, 43, 44, 45, 46, 47, 48, 49, 50, 51, 52, 53] [0, 1, 2, 3, 4, 5, 6, 7, 8, 9, 10, 11, 12, 13, 14, 15, 16, 17, 18, 19, 20, 21, 22, 23, 24, 25, 26, 27, 28, 29, 30, 31, 32, 33, 34, 35, 36, 37, 38, 39, 40, 41, 42, 43, 44, 45, 46, 47, 48, 49, 50, 51, 52, 53, 54, 55, 56, 57, 58, 59, 60, 61, 62, 63, 64, 65, 66, 67, 68, 69, 70, 71, 72, 73, 74, 75, 76, 77, 78, 79, 80, 81, 82, 83, 84, 85, 86, 87, 88, 89, 90, 91, 92, 93, 94, 95, 96, 97, 98, 99, 100, 101, 102, 103, 104, 105, 106, 107, 108, 109, 110, 111, 112, 113, 114, 115, 116, 117, 118, 119, 120, 121, 122, 123, 124, 125, 126, 127, 128, 129, 130, 131, 132] (fun n' sl h' => ∃ (k : Nat) (rv : SV) (c : Hp) (H : List Hc), sl = [(38, .sc (.int .i64 (k : Int)))] ∧ n' = (v.h - 1).toNat - k ∧ k ≤ (v.h - 1).toNat ∧ NsO cellE 34 35 rv H c ∧ H.map Hd.L = List.replicate k (List.replicate v.w.toNat (blankC attr0)) ∧ Sep R (pgO pid Z rv :: c :: hpOf H :: bvO bv v :: M) h') ?_ ?_
  · refine ⟨_, _, ⟨0, .nils, [], [], rfl, rfl, Nat.zero_le _, NsO.nil _ _, rfl, hs.reord (fun a => by simp only [List.flatten_cons, List.flatten_nil, List.count_append, List.count_nil, hpOf_append, hpOf_cons, hpOf_nil, List.append_nil, List.eraseIdx_cons_succ, List.eraseIdx_zero, List.tail_cons] <;> omega)⟩, EnvB.of rfl⟩
  clear hs
  rintro _ _ us _ h2 ⟨k, rv, c, H, rfl, rfl, hk, ha, hH, hs⟩ he
  refine W_spell he rfl ?_
  clear he
  unfold m8_l5
  have hHl : H.length = k := by
    have := congrArg List.length hH
    simp at this; omega
  have hmv : (H.map Hd.v).length = H.length := List.length_map _
  have hacc := ha.1
  by_cases hlt : k < (v.h - 1).toNat
  · repeat' (first
      | (refine K_ops ?_; first
        | refine W_fastB rfl ?_
        | refine W_nil ?_
        | (refine K_call ?_; first
          | (refine W_callsN 17 rfl (w17 v.w attr0 _) rfl ?_; rintro _ h3 ⟨u2, c2, rfl, q2, t⟩; have hs := hs.call t; try simp only [cell_back, attr_back, List.set_cons_zero, List.set_cons_succ, List.eraseIdx_cons_succ, List.eraseIdx_zero, List.tail_cons, List.nil_append, List.cons_append] at hs; refine W_norm rfl ?_)
        )
        | (refine K_bin ?_; first
          | (refine W_add rfl rfl (IntWalk.i64_in _ (by first | omega | (simp only [List.length_set, List.length_append, List.length_take, List.length_drop, List.length_replicate, List.length_cons, List.length_nil, decs_length, List.length_map]; omega))) ?_; refine W_norm rfl ?_)
        )
        | (refine K_load ?_; first
          | (refine W_loadC hs 0 rfl rfl rfl ?_; refine W_norm rfl ?_)
          | (refine W_loadC hs 3 rfl rfl rfl ?_; refine W_norm rfl ?_)
        )
        | (refine K_store ?_; first
          | (refine W_storeC hs 2 rfl rfl rfl rfl (by first | decide | assumption) rfl rfl ?_; intro _ hs; try simp only [cell_back, attr_back, List.set_cons_zero, List.set_cons_succ, List.eraseIdx_cons_succ, List.eraseIdx_zero, List.tail_cons, List.nil_append, List.cons_append] at hs; refine W_norm rfl ?_)
        )
        | (refine K_bslice ?_; first
          | (refine W_buildS1 svEl hs rfl rfl ?_; intro _ _ _ _ hs; try simp only [cell_back, attr_back, List.set_cons_zero, List.set_cons_succ, List.eraseIdx_cons_succ, List.eraseIdx_zero, List.tail_cons, List.nil_append, List.cons_append] at hs; refine W_norm rfl ?_)
        )
        | (refine K_append ?_; first
          | (refine W_appS hs 3 rfl rfl (by assumption) rfl (by first | assumption | exact SlR.now hs (by assumption) | exact AccS.now (by assumption) hs (by simp) | exact OwnS.now (by assumption) hs (by simp)) rfl ⟨by decide, (by first | omega | (simp only [List.length_set, List.length_append, List.length_take, List.length_drop, List.length_replicate, List.length_cons, List.length_nil, decs_length, List.length_map]; omega))⟩ ?_; intro _ _ _ _ hs; try simp only [cell_back, attr_back, List.set_cons_zero, List.set_cons_succ, List.eraseIdx_cons_succ, List.eraseIdx_zero, List.tail_cons, List.nil_append, List.cons_append] at hs; refine W_norm rfl ?_)
        )
        | (refine W_buildN rfl ?_; refine W_norm rfl ?_)
      )
      | (refine K_code ?_; first
        | refine W_seq ?_
        | refine W_ops ?_
        | (refine W_cond rfl (fun hc => ?_) (fun hc => ?_) <;> (try rw [hc]) <;> (try simp only [decide_eq_true_eq, decide_eq_false_iff_not, beq_iff_eq, beq_eq_false_iff_ne, bne_iff_ne, bne_eq_false_iff_eq, Bool.not_eq_true', Bool.not_eq_false', Int.not_lt, Int.not_le, ne_eq, reduceCtorEq, not_true_eq_false, not_false_eq_true, Decidable.not_not] at hc) <;> (try (exfalso; omega)) <;> (try refine W_norm rfl ?_))
        | refine W_skip ?_
        | refine W_block ?_
        | refine W_draws ?_
      )
      | refine W_dstep rfl ?_
      | refine ⟨rfl, fun rc hrec => ?_⟩
      | (refine W_dnilS (by simp only [List.reverse_cons, List.reverse_nil, List.nil_append, List.cons_append]; rfl) (by repeat' first | exact CL_nil _ _ | refine CL_skip rfl ?_ | refine CL_load (by assumption) rfl (by first | exact trivial | (repeat' first | exact trivial | refine ⟨⟨_, rfl, (by refine (congrArg (fun x => Heap.get x _) (RecIs.hh (by assumption))).trans ?_; first | rfl | exact PtR.same_get (by assumption) (by assumption) (by assumption) | exact Sep.same_get (by assumption) (by assumption) 0 0 rfl rfl | exact Sep.same_get (by assumption) (by assumption) 0 1 rfl rfl | exact Sep.same_get (by assumption) (by assumption) 0 2 rfl rfl | exact Sep.same_get (by assumption) (by assumption) 0 3 rfl rfl | exact Sep.same_get (by assumption) (by assumption) 0 4 rfl rfl | exact Sep.same_get (by assumption) (by assumption) 0 5 rfl rfl | exact Sep.same_get (by assumption) (by assumption) 1 0 rfl rfl | exact Sep.same_get (by assumption) (by assumption) 1 1 rfl rfl | exact Sep.same_get (by assumption) (by assumption) 1 2 rfl rfl | exact Sep.same_get (by assumption) (by assumption) 1 3 rfl rfl | exact Sep.same_get (by assumption) (by assumption) 1 4 rfl rfl | exact Sep.same_get (by assumption) (by assumption) 1 5 rfl rfl | exact Sep.same_get (by assumption) (by assumption) 2 0 rfl rfl | exact Sep.same_get (by assumption) (by assumption) 2 1 rfl rfl | exact Sep.same_get (by assumption) (by assumption) 2 2 rfl rfl | exact Sep.same_get (by assumption) (by assumption) 2 3 rfl rfl | exact Sep.same_get (by assumption) (by assumption) 2 4 rfl rfl | exact Sep.same_get (by assumption) (by assumption) 2 5 rfl rfl | exact Sep.same_get (by assumption) (by assumption) 3 0 rfl rfl | exact Sep.same_get (by assumption) (by assumption) 3 1 rfl rfl | exact Sep.same_get (by assumption) (by assumption) 3 2 rfl rfl | exact Sep.same_get (by assumption) (by assumption) 3 3 rfl rfl | exact Sep.same_get (by assumption) (by assumption) 3 4 rfl rfl | exact Sep.same_get (by assumption) (by assumption) 3 5 rfl rfl | exact Sep.same_get (by assumption) (by assumption) 4 0 rfl rfl | exact Sep.same_get (by assumption) (by assumption) 4 1 rfl rfl | exact Sep.same_get (by assumption) (by assumption) 4 2 rfl rfl | exact Sep.same_get (by assumption) (by assumption) 4 3 rfl rfl | exact Sep.same_get (by assumption) (by assumption) 4 4 rfl rfl | exact Sep.same_get (by assumption) (by assumption) 4 5 rfl rfl | exact Sep.same_get (by assumption) (by assumption) 5 0 rfl rfl | exact Sep.same_get (by assumption) (by assumption) 5 1 rfl rfl | exact Sep.same_get (by assumption) (by assumption) 5 2 rfl rfl | exact Sep.same_get (by assumption) (by assumption) 5 3 rfl rfl | exact Sep.same_get (by assumption) (by assumption) 5 4 rfl rfl | exact Sep.same_get (by assumption) (by assumption) 5 5 rfl rfl)⟩, ?_⟩)) (by first | exact trivial | (repeat' first | exact trivial | refine ⟨⟨_, rfl, (by refine (congrArg (fun x => Heap.get x _) (RecIs.hh' (by assumption))).trans ?_; first | rfl | exact PtR.same_get (by assumption) (by assumption) (by assumption) | exact Sep.same_get (by assumption) (by assumption) 0 0 rfl rfl | exact Sep.same_get (by assumption) (by assumption) 0 1 rfl rfl | exact Sep.same_get (by assumption) (by assumption) 0 2 rfl rfl | exact Sep.same_get (by assumption) (by assumption) 0 3 rfl rfl | exact Sep.same_get (by assumption) (by assumption) 0 4 rfl rfl | exact Sep.same_get (by assumption) (by assumption) 0 5 rfl rfl | exact Sep.same_get (by assumption) (by assumption) 1 0 rfl rfl | exact Sep.same_get (by assumption) (by assumption) 1 1 rfl rfl | exact Sep.same_get (by assumption) (by assumption) 1 2 rfl rfl | exact Sep.same_get (by assumption) (by assumption) 1 3 rfl rfl | exact Sep.same_get (by assumption) (by assumption) 1 4 rfl rfl | exact Sep.same_get (by assumption) (by assumption) 1 5 rfl rfl | exact Sep.same_get (by assumption) (by assumption) 2 0 rfl rfl | exact Sep.same_get (by assumption) (by assumption) 2 1 rfl rfl | exact Sep.same_get (by assumption) (by assumption) 2 2 rfl rfl | exact Sep.same_get (by assumption) (by assumption) 2 3 rfl rfl | exact Sep.same_get (by assumption) (by assumption) 2 4 rfl rfl | exact Sep.same_get (by assumption) (by assumption) 2 5 rfl rfl | exact Sep.same_get (by assumption) (by assumption) 3 0 rfl rfl | exact Sep.same_get (by assumption) (by assumption) 3 1 rfl rfl | exact Sep.same_get (by assumption) (by assumption) 3 2 rfl rfl | exact Sep.same_get (by assumption) (by assumption) 3 3 rfl rfl | exact Sep.same_get (by assumption) (by assumption) 3 4 rfl rfl | exact Sep.same_get (by assumption) (by assumption) 3 5 rfl rfl | exact Sep.same_get (by assumption) (by assumption) 4 0 rfl rfl | exact Sep.same_get (by assumption) (by assumption) 4 1 rfl rfl | exact Sep.same_get (by assumption) (by assumption) 4 2 rfl rfl | exact Sep.same_get (by assumption) (by assumption) 4 3 rfl rfl | exact Sep.same_get (by assumption) (by assumption) 4 4 rfl rfl | exact Sep.same_get (by assumption) (by assumption) 4 5 rfl rfl | exact Sep.same_get (by assumption) (by assumption) 5 0 rfl rfl | exact Sep.same_get (by assumption) (by assumption) 5 1 rfl rfl | exact Sep.same_get (by assumption) (by assumption) 5 2 rfl rfl | exact Sep.same_get (by assumption) (by assumption) 5 3 rfl rfl | exact Sep.same_get (by assumption) (by assumption) 5 4 rfl rfl | exact Sep.same_get (by assumption) (by assumption) 5 5 rfl rfl)⟩, ?_⟩)) ?_) ?_)
      | refine seqK_n ?_
      | refine blockK_n ?_
      | refine invK_n ?_)
    rw [if_pos hw] at q2
    replace hs : Sep R (_ :: c2 :: pgO pid Z _ :: _ :: hpOf H :: bvO bv v :: M) _ := hs
    refine ⟨_, ?_, _, ⟨k + 1, _, _, H ++ [⟨u2, List.replicate v.w.toNat (blankC attr0), c2⟩], rfl, rfl, ?_, ha.push (by assumption) q2.1, ?_, (hs.drop 0).reord (fun a => by simp only [List.flatten_cons, List.flatten_nil, List.count_append, List.count_nil, hpOf_append, hpOf_cons, hpOf_nil, List.append_nil, List.eraseIdx_cons_succ, List.eraseIdx_zero, List.tail_cons] <;> omega)⟩, EnvB.of rfl⟩
    · omega
    · omega
    · rw [List.map_append, hH, List.replicate_succ']; rfl
  · repeat' (first
      | (refine K_ops ?_; first
        | refine W_fastB rfl ?_
        | refine W_nil ?_
      )
      | (refine K_code ?_; first
        | refine W_seq ?_
        | refine W_ops ?_
        | (refine W_cond rfl (fun hc => ?_) (fun hc => ?_) <;> (try rw [hc]) <;> (try simp only [decide_eq_true_eq, decide_eq_false_iff_not, beq_iff_eq, beq_eq_false_iff_ne, bne_iff_ne, bne_eq_false_iff_eq, Bool.not_eq_true', Bool.not_eq_false', Int.not_lt, Int.not_le, ne_eq, reduceCtorEq, not_true_eq_false, not_false_eq_true, Decidable.not_not] at hc) <;> (try (exfalso; omega)) <;> (try refine W_norm rfl ?_))
        | refine W_exit ?_
      )
      | refine seqK_n ?_
      | refine seqK_x ?_
      | refine blockK_e ?_
      | refine invK_x ?_)
    obtain rfl : k = (v.h - 1).toNat := by omega
    exact ⟨_, _, _, rfl, ha, hH, hs, rfl, rfl, rfl, rfl, rfl, trivial⟩
end Go.Proofs.YtfmldkjidfigbaaDoor
/- Compose: the loop of the parts. -/
set_option linter.unusedSimpArgs false
set_option linter.unusedVariables false
set_option maxHeartbeats 1000000
set_option maxRecDepth 100000
namespace Go.Proofs.YtfmldkjidfigbaaDoor
open Go Go.Jx

/-- A load that is not done. -/
theorem CL_none {recs rs : List Rec} {dst : Option Nat} {agg : Option Nat} {x : Rnd} {g : Option (Nat × Bool)} {lo hi : List Nat} {l : List DI} {r : Rec} {e : List AV} {h h' : Heap}
    (hr : RecIs ⟨⟨dst, .load agg x, g⟩, 1, lo, hi⟩ e h h' r) (hx : rd e x = undefA) (k : CL recs l rs) : CL recs (⟨⟨dst, .load agg x, g⟩, 1, lo, hi⟩ :: l) (r :: rs) := by
  unfold CL at k ⊢
  unfold checkLoads
  rw [k]
  obtain ⟨h1, h2, h3⟩ := hr
  cases hon : r.on with
  | false => simp
  | true =>
    obtain ⟨agg', x', hop, hx', hv⟩ := h3 rfl hon
    simp only [MOp.load.injEq] at hop
    obtain ⟨rfl, rfl⟩ := hop
    rw [hx', hx] at hv
    cases agg <;> simp [loadA, undefA] at hv

/- CLNONE -/
/-- What the lines of a slice are. -/
abbrev Lns := SV → List (SV × List Cell)
def pmOf (ln : Lns) (p : PartV) : PartM := mOf p (ln p.v)
def PartOk (R : Ro) (ln : Lns) (p : PartV) : Prop := RcI p.r ∧ NsR cellE R p.v (ln p.v) ∧ (ln p.v).length ≤ 10000000000000 ∧ ∀ g ∈ ln p.v, g.2.length ≤ 10000000000000
theorem partR_shape {Z : Rc} {wd : Nat} {rows : Rows'} {p : PartM} (hZ : PageR Z wd rows.length) (hA : AllW rows wd) (hp : RcI p.r) : (partR Z rows p).length = rows.length ∧ AllW (partR Z rows p) wd := by
  have hin := crop_in hZ hp
  have hzz : 0 ≤ (cropR p.r Z).w ∧ (cropR p.r Z).w ≤ 400 ∧ 0 ≤ (cropR p.r Z).h ∧ 0 ≤ (cropR p.r Z).y ∧ (cropR p.r Z).y + (cropR p.r Z).h ≤ rows.length ∧ 0 ≤ (cropR p.r Z).x ∧ (cropR p.r Z).x + (cropR p.r Z).w ≤ wd ∧ (1 ≤ (cropR p.r Z).h → 1 ≤ (cropR p.r Z).w) := by
    obtain ⟨_, h1, h2, h3⟩ := hZ
    rcases hin with h | h
    · rw [h]; simp [rc0]
    · omega
  clear hin hZ
  obtain ⟨xn, hxn⟩ : ∃ j : Nat, (cropR p.r Z).x = (j : Int) := ⟨(cropR p.r Z).x.toNat, by omega⟩
  unfold partR fillsR
  generalize cropR p.r Z = z at *
  rw [hxn]
  refine ⟨by split <;> rw [drawN_length], ?_⟩
  by_cases h0 : z.h = 0
  · rw [h0]; split <;> exact hA
  · split
    · exact drawN_all hA (fun k => by rw [lineL_length (by omega)]; omega) (by omega)
    · exact drawN_all hA (fun k => by rw [List.length_replicate]; omega) (by omega)
theorem fold_take {α β : Type} (f : β → α → β) (b : β) (l : List α) (k : Nat) (d : α) (h : k < l.length) : (l.take (k + 1)).foldl f b = f ((l.take k).foldl f b) (l.getD k d) := by
  rw [List.take_add_one, List.getElem?_eq_getElem h, List.getD_eq_getElem?_getD, List.getElem?_eq_getElem h, List.foldl_append]; rfl
theorem fold_shape {Z : Rc} {wd : Nat} (l : List PartM) : ∀ {rows : Rows'}, PageR Z wd rows.length → AllW rows wd → (∀ p ∈ l, RcI p.r) → (l.foldl (partR Z) rows).length = rows.length ∧ AllW (l.foldl (partR Z) rows) wd := by
  induction l with
  | nil => intro rows _ hA _; exact ⟨rfl, hA⟩
  | cons p l ih =>
    intro rows hZ hA hp
    obtain ⟨h1, h2⟩ := partR_shape hZ hA (hp p (by simp))
    obtain ⟨h3, h4⟩ := ih (rows := partR Z rows p) (by rw [h1]; exact hZ) h2 (fun q hq => hp q (by simp [hq]))
    exact ⟨by rw [List.foldl_cons, h3, h1], by rw [List.foldl_cons]; exact h4⟩

theorem pageI {Z : Rc} {wd n : Nat} (hZ : PageR Z wd n) : RcI Z := by
  obtain ⟨hZ0, h1, h2, h3⟩ := hZ
  subst hZ0
  refine ⟨?_, ?_, ?_, ?_⟩ <;> (unfold InI; simp only; omega)
theorem cropI {p Z : Rc} {wd n : Nat} (hZ : PageR Z wd n) (hp : RcI p) : RcI (cropR p Z) := by
  have hin := crop_in hZ hp
  obtain ⟨_, h1, h2, h3⟩ := hZ
  rcases hin with h | h
  · rw [h]; refine ⟨?_, ?_, ?_, ?_⟩ <;> (unfold InI rc0; simp only; omega)
  · refine ⟨?_, ?_, ?_, ?_⟩ <;> (unfold InI; omega)
theorem comp_parts {R : Ro} {M : List Hp} {h : Heap} {e : List AV} {pid bv res mid wd : Nat} {Z : Rc} {v : ViewV} {rv : SV} {H : List Hc} {c : Hp} {P : List PartV} {ln : Lns} {mw mh : Int} (hs : Sep R (pgO pid Z rv :: c :: hpOf H :: maO mid mw mh .nils ⟨0, 0, false⟩ :: bvO bv v :: M) h) (hn : NsO cellE 34 35 rv H c)
    (hZ : PageR Z wd H.length) (hA : AllW (H.map Hd.L) wd) (hb : HasR R) (hP : SlR partE R v.ps P) (hPl : P.length ≤ 10000000000000) (hp : ∀ p ∈ P, PartOk R ln p)
    (he : EnvIs 133 [(1, .sc (.ptr bv 0)), (2, .sc (.ptr res 0)), (3, i64 0), (4, .sc (.ptr pid 0)), (5, .sc (.ptr mid 0))] e) :
    W DD (.code (.seq (.ops m8_r10) (.block 2 (.loop m8_l11))) e h) (fun x e' h' => ∃ c' H', x = .normal ∧ NsO cellE 34 35 rv H' c' ∧ H'.map Hd.L = (P.map (pmOf ln)).foldl (partR Z) (H.map Hd.L) ∧ Sep R (pgO pid Z rv :: c' :: hpOf H' :: maO mid mw mh .nils (cursL Z v.cur v.x v.y (P.map (pmOf ln))) :: bvO bv v :: M) h' ∧
      EnvIs 133 [(1, .sc (.ptr bv 0)), (2, .sc (.ptr res 0)), (3, i64 0), (4, .sc (.ptr pid 0)), (5, .sc (.ptr mid 0))] e') := by
  obtain ⟨us, rfl⟩ := he.list
  have hln := hP.ln
  repeat' (first
    | (refine K_ops ?_; first
      | refine W_fastB rfl ?_
      | refine W_nil ?_
      | (refine W_lenL rfl (by first | assumption | exact SlR.ln (by assumption) | exact AccS.ln (by assumption) | exact OwnS.ln (by assumption) | exact VwO.ln (by assumption) | exact OwnP.ln (by assumption) | exact Len.sl) ?_; refine W_norm rfl ?_)
      | (refine K_load ?_; first
        | (refine W_loadC hs 4 rfl rfl rfl ?_; refine W_norm rfl ?_)
      )
    )
    | (refine K_code ?_; first
      | refine W_seq ?_
      | refine W_ops ?_
      | refine W_block ?_
    )
    | refine seqK_n ?_)
  refine W_loopB [7, 62, 63, 64, 65, 66, 67, 68, 69, 70, 71, 72, 73, 74, 75, 76, 77, 78, 79, 80, 81, 82, 83, 84, 85, 86, 87, 88, 89, 90, 91, 92, 93, 94, 95, 96] [0, 1, 2, 3, 4, 5, 6, 7, 8, 9, 10, 11, 12, 13, 14, 15, 16, 17, 18, 19, 20, 21, 22, 23, 24, 25, 26, 27, 28, 29, 30, 31, 32, 33, 34, 35, 36, 37, 38, 39, 40, 41, 42, 43, 44, 45, 46, 47, 48, 49, 50, 51, 52, 53, 54, 55, 56, 57, 58, 59, 60, 61, 62, 63, 64, 65, 66, 67, 68, 69, 70, 71, 72, 73, 74, 75, 76, 77, 78, 79, 80, 81, 82, 83, 84, 85, 86, 87, 88, 89, 90, 91, 92, 93, 94, 95, 96, 97, 98, 99, 100, 101, 102, 103, 104, 105, 106, 107, 108, 109, 110, 111, 112, 113, 114, 115, 116, 117, 118, 119, 120, 121, 122, 123, 124, 125, 126, 127, 128, 129, 130, 131, 132] (fun n' sl h' => ∃ (k : Nat) (F : List Hc) (f : Hp), sl = [(62, .sc (.int .i64 (k : Int)))] ∧ n' = P.length - k ∧ k ≤ P.length ∧ NsO cellE 34 35 rv F f ∧ F.map Hd.L = ((P.map (pmOf ln)).take k).foldl (partR Z) (H.map Hd.L) ∧ Sep R (pgO pid Z rv :: f :: hpOf F :: maO mid mw mh .nils (cursL Z v.cur v.x v.y ((P.map (pmOf ln)).take k)) :: bvO bv v :: M) h') ?_ ?_
  · refine ⟨_, _, ⟨0, H, c, rfl, rfl, Nat.zero_le _, hn, rfl, hs⟩, EnvB.of rfl⟩
  clear hs hn
  rintro _ _ us _ h2 ⟨k, F, f, rfl, rfl, hk, hn, hF, hs⟩ he
  refine W_spell he rfl ?_
  clear he
  unfold m8_l11
  by_cases hlt : k < P.length
  · have hpk := hp _ (getD_mem (d := part0) hlt)
    have hsh := fold_shape ((P.map (pmOf ln)).take k) (rows := H.map Hd.L) (by rw [List.length_map]; exact hZ) hA (fun q hq => by
      obtain ⟨x, hx, rfl⟩ := List.mem_map.1 (List.mem_of_mem_take hq)
      exact (hp x hx).1)
    rw [← hF, List.length_map, List.length_map] at hsh
    repeat' (first
      | (refine K_ops ?_; first
        | refine W_fastB rfl ?_
        | refine W_nil ?_
        | (refine K_index ?_; first
          | (refine W_indexR rfl rfl (by assumption) rfl ⟨(by first | omega | (simp only [List.length_set, List.length_append, List.length_take, List.length_drop, List.length_replicate, List.length_cons, List.length_nil, decs_length, List.length_map]; omega)), (by first | omega | (simp only [List.length_set, List.length_append, List.length_take, List.length_drop, List.length_replicate, List.length_cons, List.length_nil, decs_length, List.length_map]; omega))⟩ ?_; intro _ _ _; refine W_norm rfl ?_)
        )
        | (refine K_load ?_; first
          | (refine W_loadRA hs rfl (by assumption) rfl ?_; refine W_norm rfl ?_)
          | (refine W_loadCA hs 0 rfl rfl rfl ?_; refine W_norm rfl ?_)
        )
        | (refine K_store ?_; first
          | (refine W_storeC hs 0 rfl rfl rfl rfl (by first | decide | assumption) rfl rfl ?_; clear hs; intro _ hs; try simp only [cell_back, attr_back, List.set_cons_zero, List.set_cons_succ, List.eraseIdx_cons_succ, List.eraseIdx_zero, List.tail_cons, List.nil_append, List.cons_append] at hs; refine W_norm rfl ?_)
        )
        | (refine W_allocS hs ?_; clear hs; intro al _ hs; try simp only [cell_back, attr_back, List.set_cons_zero, List.set_cons_succ, List.eraseIdx_cons_succ, List.eraseIdx_zero, List.tail_cons, List.nil_append, List.cons_append] at hs; refine W_norm rfl ?_)
      )
      | (refine K_code ?_; first
        | refine W_seq ?_
        | refine W_ops ?_
        | (refine W_cond rfl (fun hc => ?_) (fun hc => ?_) <;> (try rw [hc]) <;> (try simp only [decide_eq_true_eq, decide_eq_false_iff_not, beq_iff_eq, beq_eq_false_iff_ne, bne_iff_ne, bne_eq_false_iff_eq, Bool.not_eq_true', Bool.not_eq_false', Int.not_lt, Int.not_le, ne_eq, reduceCtorEq, not_true_eq_false, not_false_eq_true, Decidable.not_not] at hc) <;> (try (exfalso; omega)) <;> (try refine W_norm rfl ?_))
        | refine W_skip ?_
        | refine W_block ?_
      )
      | refine seqK_n ?_)
    generalize hx : P.getD (k : Int).toNat partE.dflt = x at *
    have hpx : PartOk R ln x := by rw [← hx]; exact hp _ (getD_mem (by omega))
    obtain ⟨p1, p2, p3, p4⟩ := hpx
    replace hs : Sep R ([(al, .cells 40 .own (partE.enc x))] :: pgO pid Z rv :: f :: hpOf F :: maO mid mw mh .nils (cursL Z v.cur v.x v.y ((P.map (pmOf ln)).take k)) :: bvO bv v :: M) _ := hs
    replace hs : Sep R (pgO pid Z rv :: f :: hpOf F :: maO mid mw mh .nils (cursL Z v.cur v.x v.y ((P.map (pmOf ln)).take k)) :: [(al, .cells 40 .own (partE.enc x))] :: bvO bv v :: M) _ := hs.reord (fun a => by simp only [List.flatten_cons, List.flatten_nil, List.count_append, List.count_nil, hpOf_append, hpOf_cons, hpOf_nil, List.append_nil, List.eraseIdx_cons_succ, List.eraseIdx_zero, List.tail_cons] <;> omega)
    have hZF : PageR Z wd F.length := by rw [hsh.1]; exact hZ
    generalize hcu : cursL Z v.cur v.x v.y ((P.map (pmOf ln)).take k) = cu at *
    have hps2 : (P.map (pmOf ln)).getD k (pmOf ln part0) = pmOf ln x := by
      rw [map_getD]; exact congrArg (pmOf ln) hx
    have hstep : ∀ b, v.cur = b → cursL Z b v.x v.y ((P.map (pmOf ln)).take (k + 1)) = if (b && x.s && inR (cropR x.r Z) v.x v.y) = true then ⟨v.x, v.y, true⟩ else cu := by
      rintro _ rfl
      unfold cursL at hcu ⊢
      rw [fold_take _ _ _ _ (pmOf ln part0) (by rw [List.length_map]; exact hlt), hcu, hps2]
      rfl
    have hrows : ((P.map (pmOf ln)).take (k + 1)).foldl (partR Z) (H.map Hd.L) = partR Z (F.map Hd.L) (mOf x (ln x.v)) := by
      rw [fold_take _ _ _ _ (pmOf ln part0) (by rw [List.length_map]; exact hlt), ← hF, hps2]; rfl
    repeat' (first
      | (refine K_ops ?_; first
        | refine W_fastB rfl ?_
        | refine W_nil ?_
        | (refine K_guard ?_; first
          | refine W_guard_on rfl ?_
          | refine W_guard_off rfl rfl (W_norm rfl ?_)
          | (refine W_guardT rfl (fun hc => ?_) (fun hc => ?_) <;> (try rw [hc]) <;> (try simp only [decide_eq_true_eq, decide_eq_false_iff_not, beq_iff_eq, beq_eq_false_iff_ne, bne_iff_ne, bne_eq_false_iff_eq, Bool.not_eq_true', Bool.not_eq_false', Int.not_lt, Int.not_le, ne_eq, reduceCtorEq, not_true_eq_false, not_false_eq_true, Decidable.not_not] at hc) <;> (try (exfalso; omega)) <;> (try refine W_norm rfl ?_))
        )
        | (refine K_call ?_; first
          | (refine W_callsN 18 rfl (w18 (p := x) (G := ln x.v) hs hn hZF hsh.2 p1 hb p2 p3 p4) rfl ?_; rintro _ h5 ⟨rfl, G2, g2, hn2, hG2, hs⟩; refine W_norm rfl ?_)
          | (refine W_callsN 13 rfl (w13 p1 (pageI hZ)) rfl ?_; rintro _ h6 ⟨rfl, t⟩; have hs := hs.call t; try simp only [cell_back, attr_back, List.set_cons_zero, List.set_cons_succ, List.eraseIdx_cons_succ, List.eraseIdx_zero, List.tail_cons, List.nil_append, List.cons_append] at hs; refine W_norm rfl ?_)
          | (refine W_callsN 15 rfl (w15 (cropI hZ p1)) rfl ?_; rintro _ h7 ⟨rfl, t⟩; have hs := hs.call t; try simp only [cell_back, attr_back, List.set_cons_zero, List.set_cons_succ, List.eraseIdx_cons_succ, List.eraseIdx_zero, List.tail_cons, List.nil_append, List.cons_append] at hs; refine W_norm rfl ?_)
        )
        | (refine K_bin ?_; first
          | (refine W_add rfl rfl (IntWalk.i64_in _ (by first | omega | (simp only [List.length_set, List.length_append, List.length_take, List.length_drop, List.length_replicate, List.length_cons, List.length_nil, decs_length, List.length_map]; omega))) ?_; refine W_norm rfl ?_)
        )
        | (refine K_pick ?_; first
          | refine W_pick_t rfl rfl (W_norm rfl ?_)
          | refine W_pick_f rfl rfl (W_norm rfl ?_)
        )
        | (refine K_load ?_; first
          | (refine W_loadCA hs 0 rfl rfl rfl ?_; refine W_norm rfl ?_)
          | (refine W_loadC hs 4 rfl rfl rfl ?_; refine W_norm rfl ?_)
          | (refine W_loadCA hs 4 rfl rfl rfl ?_; refine W_norm rfl ?_)
          | (refine W_loadC hs 5 rfl rfl rfl ?_; refine W_norm rfl ?_)
        )
        | (refine K_store ?_; first
          | (refine W_storeC hs 3 rfl rfl rfl rfl (by first | decide | assumption) rfl rfl ?_; intro _ hs; try simp only [cell_back, attr_back, List.set_cons_zero, List.set_cons_succ, List.eraseIdx_cons_succ, List.eraseIdx_zero, List.tail_cons, List.nil_append, List.cons_append] at hs; refine W_norm rfl ?_)
        )
      )
      | (refine K_code ?_; first
        | refine W_seq ?_
        | refine W_ops ?_
        | refine W_cond_f rfl ?_
        | (refine W_cond rfl (fun hc => ?_) (fun hc => ?_) <;> (try rw [hc]) <;> (try simp only [decide_eq_true_eq, decide_eq_false_iff_not, beq_iff_eq, beq_eq_false_iff_ne, bne_iff_ne, bne_eq_false_iff_eq, Bool.not_eq_true', Bool.not_eq_false', Int.not_lt, Int.not_le, ne_eq, reduceCtorEq, not_true_eq_false, not_false_eq_true, Decidable.not_not] at hc) <;> (try (exfalso; omega)) <;> (try refine W_norm rfl ?_))
        | refine W_skip ?_
        | refine W_draws ?_
      )
      | refine W_dstep rfl ?_
      | refine ⟨rfl, fun rc hrec => ?_⟩
      | (refine W_dnilS (by simp only [List.reverse_cons, List.reverse_nil, List.nil_append, List.cons_append]; rfl) (by repeat' first | exact CL_nil _ _ | refine CL_skip rfl ?_ | refine CL_none (by assumption) rfl ?_ | refine CL_load (by assumption) rfl (by first | exact trivial | (repeat' first | exact trivial | refine ⟨⟨_, rfl, (by refine (congrArg (fun x => Heap.get x _) (RecIs.hh (by assumption))).trans ?_; first | rfl | exact PtR.same_get (by assumption) (by assumption) (by assumption) | exact Sep.same_get (by assumption) (by assumption) 0 0 rfl rfl | exact Sep.same_get (by assumption) (by assumption) 0 1 rfl rfl | exact Sep.same_get (by assumption) (by assumption) 0 2 rfl rfl | exact Sep.same_get (by assumption) (by assumption) 0 3 rfl rfl | exact Sep.same_get (by assumption) (by assumption) 0 4 rfl rfl | exact Sep.same_get (by assumption) (by assumption) 0 5 rfl rfl | exact Sep.same_get (by assumption) (by assumption) 1 0 rfl rfl | exact Sep.same_get (by assumption) (by assumption) 1 1 rfl rfl | exact Sep.same_get (by assumption) (by assumption) 1 2 rfl rfl | exact Sep.same_get (by assumption) (by assumption) 1 3 rfl rfl | exact Sep.same_get (by assumption) (by assumption) 1 4 rfl rfl | exact Sep.same_get (by assumption) (by assumption) 1 5 rfl rfl | exact Sep.same_get (by assumption) (by assumption) 2 0 rfl rfl | exact Sep.same_get (by assumption) (by assumption) 2 1 rfl rfl | exact Sep.same_get (by assumption) (by assumption) 2 2 rfl rfl | exact Sep.same_get (by assumption) (by assumption) 2 3 rfl rfl | exact Sep.same_get (by assumption) (by assumption) 2 4 rfl rfl | exact Sep.same_get (by assumption) (by assumption) 2 5 rfl rfl | exact Sep.same_get (by assumption) (by assumption) 3 0 rfl rfl | exact Sep.same_get (by assumption) (by assumption) 3 1 rfl rfl | exact Sep.same_get (by assumption) (by assumption) 3 2 rfl rfl | exact Sep.same_get (by assumption) (by assumption) 3 3 rfl rfl | exact Sep.same_get (by assumption) (by assumption) 3 4 rfl rfl | exact Sep.same_get (by assumption) (by assumption) 3 5 rfl rfl | exact Sep.same_get (by assumption) (by assumption) 4 0 rfl rfl | exact Sep.same_get (by assumption) (by assumption) 4 1 rfl rfl | exact Sep.same_get (by assumption) (by assumption) 4 2 rfl rfl | exact Sep.same_get (by assumption) (by assumption) 4 3 rfl rfl | exact Sep.same_get (by assumption) (by assumption) 4 4 rfl rfl | exact Sep.same_get (by assumption) (by assumption) 4 5 rfl rfl | exact Sep.same_get (by assumption) (by assumption) 5 0 rfl rfl | exact Sep.same_get (by assumption) (by assumption) 5 1 rfl rfl | exact Sep.same_get (by assumption) (by assumption) 5 2 rfl rfl | exact Sep.same_get (by assumption) (by assumption) 5 3 rfl rfl | exact Sep.same_get (by assumption) (by assumption) 5 4 rfl rfl | exact Sep.same_get (by assumption) (by assumption) 5 5 rfl rfl)⟩, ?_⟩)) (by first | exact trivial | (repeat' first | exact trivial | refine ⟨⟨_, rfl, (by refine (congrArg (fun x => Heap.get x _) (RecIs.hh' (by assumption))).trans ?_; first | rfl | exact PtR.same_get (by assumption) (by assumption) (by assumption) | exact Sep.same_get (by assumption) (by assumption) 0 0 rfl rfl | exact Sep.same_get (by assumption) (by assumption) 0 1 rfl rfl | exact Sep.same_get (by assumption) (by assumption) 0 2 rfl rfl | exact Sep.same_get (by assumption) (by assumption) 0 3 rfl rfl | exact Sep.same_get (by assumption) (by assumption) 0 4 rfl rfl | exact Sep.same_get (by assumption) (by assumption) 0 5 rfl rfl | exact Sep.same_get (by assumption) (by assumption) 1 0 rfl rfl | exact Sep.same_get (by assumption) (by assumption) 1 1 rfl rfl | exact Sep.same_get (by assumption) (by assumption) 1 2 rfl rfl | exact Sep.same_get (by assumption) (by assumption) 1 3 rfl rfl | exact Sep.same_get (by assumption) (by assumption) 1 4 rfl rfl | exact Sep.same_get (by assumption) (by assumption) 1 5 rfl rfl | exact Sep.same_get (by assumption) (by assumption) 2 0 rfl rfl | exact Sep.same_get (by assumption) (by assumption) 2 1 rfl rfl | exact Sep.same_get (by assumption) (by assumption) 2 2 rfl rfl | exact Sep.same_get (by assumption) (by assumption) 2 3 rfl rfl | exact Sep.same_get (by assumption) (by assumption) 2 4 rfl rfl | exact Sep.same_get (by assumption) (by assumption) 2 5 rfl rfl | exact Sep.same_get (by assumption) (by assumption) 3 0 rfl rfl | exact Sep.same_get (by assumption) (by assumption) 3 1 rfl rfl | exact Sep.same_get (by assumption) (by assumption) 3 2 rfl rfl | exact Sep.same_get (by assumption) (by assumption) 3 3 rfl rfl | exact Sep.same_get (by assumption) (by assumption) 3 4 rfl rfl | exact Sep.same_get (by assumption) (by assumption) 3 5 rfl rfl | exact Sep.same_get (by assumption) (by assumption) 4 0 rfl rfl | exact Sep.same_get (by assumption) (by assumption) 4 1 rfl rfl | exact Sep.same_get (by assumption) (by assumption) 4 2 rfl rfl | exact Sep.same_get (by assumption) (by assumption) 4 3 rfl rfl | exact Sep.same_get (by assumption) (by assumption) 4 4 rfl rfl | exact Sep.same_get (by assumption) (by assumption) 4 5 rfl rfl | exact Sep.same_get (by assumption) (by assumption) 5 0 rfl rfl | exact Sep.same_get (by assumption) (by assumption) 5 1 rfl rfl | exact Sep.same_get (by assumption) (by assumption) 5 2 rfl rfl | exact Sep.same_get (by assumption) (by assumption) 5 3 rfl rfl | exact Sep.same_get (by assumption) (by assumption) 5 4 rfl rfl | exact Sep.same_get (by assumption) (by assumption) 5 5 rfl rfl)⟩, ?_⟩)) ?_) ?_)
      | refine seqK_n ?_
      | refine blockK_n ?_
      | refine invK_n ?_)
    · replace hs : Sep R (pgO pid Z rv :: g2 :: hpOf G2 :: maO mid mw mh .nils ⟨v.x, v.y, true⟩ :: [(al, .cells 40 .own (partE.enc x))] :: bvO bv v :: M) _ := hs
      refine ⟨_, ?_, _, ⟨k + 1, G2, g2, rfl, rfl, ?_, hn2, ?_, ?_⟩, EnvB.of rfl⟩
      · omega
      · omega
      · rw [hG2, hrows]
      · have h1 : x.s = true := by assumption
        have h2 : inR (cropR x.r Z) v.x v.y = true := by assumption
        rw [hstep _ (by assumption), if_pos (by rw [h1, h2]; rfl)]
        exact hs.drop 4
    · replace hs : Sep R (pgO pid Z rv :: g2 :: hpOf G2 :: maO mid mw mh .nils cu :: [(al, .cells 40 .own (partE.enc x))] :: bvO bv v :: M) _ := hs
      refine ⟨_, ?_, _, ⟨k + 1, G2, g2, rfl, rfl, ?_, hn2, ?_, ?_⟩, EnvB.of rfl⟩
      · omega
      · omega
      · rw [hG2, hrows]
      · have h2 : inR (cropR x.r Z) v.x v.y = false := by assumption
        rw [hstep _ (by assumption), if_neg (by rw [h2, Bool.and_false]; decide)]
        exact hs.drop 4
    · replace hs : Sep R (pgO pid Z rv :: g2 :: hpOf G2 :: maO mid mw mh .nils cu :: [(al, .cells 40 .own (partE.enc x))] :: bvO bv v :: M) _ := hs
      refine ⟨_, ?_, _, ⟨k + 1, G2, g2, rfl, rfl, ?_, hn2, ?_, ?_⟩, EnvB.of rfl⟩
      · omega
      · omega
      · rw [hG2, hrows]
      · have h1 : x.s = false := by assumption
        rw [hstep _ (by assumption), if_neg (by rw [h1, Bool.and_false, Bool.false_and]; decide)]
        exact hs.drop 4
    · replace hs : Sep R (pgO pid Z rv :: g2 :: hpOf G2 :: maO mid mw mh .nils cu :: [(al, .cells 40 .own (partE.enc x))] :: bvO bv v :: M) _ := hs
      refine ⟨_, ?_, _, ⟨k + 1, G2, g2, rfl, rfl, ?_, hn2, ?_, ?_⟩, EnvB.of rfl⟩
      · omega
      · omega
      · rw [hG2, hrows]
      · rw [hstep _ (by assumption), if_neg (by rw [Bool.false_and, Bool.false_and]; decide)]
        exact hs.drop 4
  · repeat' (first
      | (refine K_ops ?_; first
        | refine W_fastB rfl ?_
        | refine W_nil ?_
      )
      | (refine K_code ?_; first
        | refine W_seq ?_
        | refine W_ops ?_
        | (refine W_cond rfl (fun hc => ?_) (fun hc => ?_) <;> (try rw [hc]) <;> (try simp only [decide_eq_true_eq, decide_eq_false_iff_not, beq_iff_eq, beq_eq_false_iff_ne, bne_iff_ne, bne_eq_false_iff_eq, Bool.not_eq_true', Bool.not_eq_false', Int.not_lt, Int.not_le, ne_eq, reduceCtorEq, not_true_eq_false, not_false_eq_true, Decidable.not_not] at hc) <;> (try (exfalso; omega)) <;> (try refine W_norm rfl ?_))
        | refine W_exit ?_
      )
      | refine seqK_n ?_
      | refine seqK_x ?_
      | refine blockK_e ?_
      | refine invK_x ?_)
    obtain rfl : k = P.length := by omega
    rw [List.take_of_length_le (by simp)] at hF hs
    exact ⟨_, _, rfl, hn, hF, hs, rfl, rfl, rfl, rfl, rfl, rfl, trivial⟩
end Go.Proofs.YtfmldkjidfigbaaDoor
