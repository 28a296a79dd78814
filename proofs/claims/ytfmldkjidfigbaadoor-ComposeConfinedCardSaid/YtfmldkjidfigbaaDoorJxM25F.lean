import Derived.Test.YtfmldkjidfigbaaDoorJxM25E
/- Compose: the loops of the borders and of the rows. -/
set_option linter.unusedSimpArgs false
set_option linter.unusedVariables false
set_option maxHeartbeats 1000000
set_option maxRecDepth 100000
namespace Go.Proofs.YtfmldkjidfigbaaDoor
open Go Go.Jx

theorem fillsR_shape {Z z : Rc} {wd : Nat} {rows : Rows'} (C : Cell) (hZ : PageR Z wd rows.length) (hA : AllW rows wd) (hin : InZ z wd rows.length) : (fillsR rows z C).length = rows.length ∧ AllW (fillsR rows z C) wd := by
  have hzz : 0 ≤ z.w ∧ z.w ≤ 400 ∧ 0 ≤ z.h ∧ 0 ≤ z.y ∧ z.y + z.h ≤ rows.length ∧ 0 ≤ z.x ∧ z.x + z.w ≤ wd ∧ (1 ≤ z.h → 1 ≤ z.w) := by
    obtain ⟨_, h1, h2, h3⟩ := hZ
    rcases hin with h | h
    · rw [h]; simp [rc0]
    · omega
  obtain ⟨xn, hxn⟩ : ∃ j : Nat, z.x = (j : Int) := ⟨z.x.toNat, by omega⟩
  unfold fillsR
  rw [hxn]
  exact ⟨drawN_length _ _ _ _ _, drawN_all hA (fun k => by rw [List.length_replicate]; omega) (by omega)⟩
theorem border_shape {Z : Rc} {wd : Nat} (l : List Rc) : ∀ {rows : Rows'}, PageR Z wd rows.length → AllW rows wd → (∀ p ∈ l, RcI p) → (l.foldl (borderR Z) rows).length = rows.length ∧ AllW (l.foldl (borderR Z) rows) wd := by
  induction l with
  | nil => intro rows _ hA _; exact ⟨rfl, hA⟩
  | cons p l ih =>
    intro rows hZ hA hp
    obtain ⟨h1, h2⟩ : (borderR Z rows p).length = rows.length ∧ AllW (borderR Z rows p) wd := fillsR_shape _ hZ hA (crop_in hZ (hp p (by simp)))
    obtain ⟨h3, h4⟩ := ih (rows := borderR Z rows p) (by rw [h1]; exact hZ) h2 (fun q hq => hp q (by simp [hq]))
    exact ⟨by rw [List.foldl_cons, h3, h1], by rw [List.foldl_cons]; exact h4⟩

theorem comp_borders {R : Ro} {M : List Hp} {h : Heap} {e : List AV} {pid bv res mid wd : Nat} {Z : Rc} {v : ViewV} {rv : SV} {H : List Hc} {c : Hp} {B : List Rc} {mw mh : Int} {cu : Curs} (hs : Sep R (pgO pid Z rv :: c :: hpOf H :: maO mid mw mh .nils cu :: bvO bv v :: M) h) (hn : NsO cellE 34 35 rv H c)
    (hZ : PageR Z wd H.length) (hA : AllW (H.map Hd.L) wd) (hP : SlR rcE R v.bs B) (hPl : B.length ≤ 10000000000000) (hp : ∀ p ∈ B, RcI p)
    (he : EnvIs 133 [(1, .sc (.ptr bv 0)), (2, .sc (.ptr res 0)), (3, i64 0), (4, .sc (.ptr pid 0)), (5, .sc (.ptr mid 0))] e) :
    W DD (.code (.seq (.ops m8_r18) (.block 4 (.loop m8_l19))) e h) (fun x e' h' => ∃ c' H', x = .normal ∧ NsO cellE 34 35 rv H' c' ∧ H'.map Hd.L = B.foldl (borderR Z) (H.map Hd.L) ∧ Sep R (pgO pid Z rv :: c' :: hpOf H' :: maO mid mw mh .nils cu :: bvO bv v :: M) h' ∧
      EnvIs 133 [(1, .sc (.ptr bv 0)), (2, .sc (.ptr res 0)), (3, i64 0), (4, .sc (.ptr pid 0)), (5, .sc (.ptr mid 0))] e') := by
  obtain ⟨us, rfl⟩ := he.list
  have hln := hP.ln
  repeat' (first
    | (refine K_ops ?_; first
      | refine W_fastB rfl ?_
      | refine W_nil ?_
      | (refine W_lenL rfl (by first | assumption | exact SlR.ln (by assumption) | exact AccS.ln (by assumption) | exact OwnS.ln (by assumption) | exact VwO.ln (by assumption) | exact OwnP.ln (by assumption) | exact Len.sl) ?_; refine W_norm rfl ?_)
      | (refine K_load ?_; first
        | (refine W_loadC hs 4 rfl rfl rfl ?_; refine W_norm rfl ?_)
      )
    )
    | (refine K_code ?_; first
      | refine W_seq ?_
      | refine W_ops ?_
      | refine W_block ?_
    )
    | refine seqK_n ?_)
  refine W_loopB [9, 100, 101, 102, 103, 104, 105, 106, 107] [0, 1, 2, 3, 4, 5, 6, 7, 8, 9, 10, 11, 12, 13, 14, 15, 16, 17, 18, 19, 20, 21, 22, 23, 24, 25, 26, 27, 28, 29, 30, 31, 32, 33, 34, 35, 36, 37, 38, 39, 40, 41, 42, 43, 44, 45, 46, 47, 48, 49, 50, 51, 52, 53, 54, 55, 56, 57, 58, 59, 60, 61, 62, 63, 64, 65, 66, 67, 68, 69, 70, 71, 72, 73, 74, 75, 76, 77, 78, 79, 80, 81, 82, 83, 84, 85, 86, 87, 88, 89, 90, 91, 92, 93, 94, 95, 96, 97, 98, 99, 100, 101, 102, 103, 104, 105, 106, 107, 108, 109, 110, 111, 112, 113, 114, 115, 116, 117, 118, 119, 120, 121, 122, 123, 124, 125, 126, 127, 128, 129, 130, 131, 132] (fun n' sl h' => ∃ (k : Nat) (F : List Hc) (f : Hp), sl = [(100, .sc (.int .i64 (k : Int)))] ∧ n' = B.length - k ∧ k ≤ B.length ∧ NsO cellE 34 35 rv F f ∧ F.map Hd.L = (B.take k).foldl (borderR Z) (H.map Hd.L) ∧ Sep R (pgO pid Z rv :: f :: hpOf F :: maO mid mw mh .nils cu :: bvO bv v :: M) h') ?_ ?_
  · refine ⟨_, _, ⟨0, H, c, rfl, rfl, Nat.zero_le _, hn, rfl, hs⟩, EnvB.of rfl⟩
  clear hs hn
  rintro _ _ us _ h2 ⟨k, F, f, rfl, rfl, hk, hn, hF, hs⟩ he
  refine W_spell he rfl ?_
  clear he
  unfold m8_l19
  by_cases hlt : k < B.length
  · have hsh := border_shape (B.take k) (rows := H.map Hd.L) (by rw [List.length_map]; exact hZ) hA (fun q hq => hp q (List.mem_of_mem_take hq))
    rw [← hF, List.length_map, List.length_map] at hsh
    repeat' (first
      | (refine K_ops ?_; first
        | refine W_fastB rfl ?_
        | refine W_nil ?_
        | (refine K_index ?_; first
          | (refine W_indexR rfl rfl (by assumption) rfl ⟨(by first | omega | (simp only [List.length_set, List.length_append, List.length_take, List.length_drop, List.length_replicate, List.length_cons, List.length_nil, decs_length, List.length_map]; omega)), (by first | omega | (simp only [List.length_set, List.length_append, List.length_take, List.length_drop, List.length_replicate, List.length_cons, List.length_nil, decs_length, List.length_map]; omega))⟩ ?_; intro _ _ _; refine W_norm rfl ?_)
        )
        | (refine K_load ?_; first
          | (refine W_loadRA hs rfl (by assumption) rfl ?_; refine W_norm rfl ?_)
          | (refine W_loadCA hs 0 rfl rfl rfl ?_; refine W_norm rfl ?_)
        )
        | (refine K_store ?_; first
          | (refine W_storeC hs 0 rfl rfl rfl rfl (by first | decide | assumption) rfl rfl ?_; clear hs; intro _ hs; try simp only [cell_back, attr_back, List.set_cons_zero, List.set_cons_succ, List.eraseIdx_cons_succ, List.eraseIdx_zero, List.tail_cons, List.nil_append, List.cons_append] at hs; refine W_norm rfl ?_)
        )
        | (refine W_allocS hs ?_; clear hs; intro al _ hs; try simp only [cell_back, attr_back, List.set_cons_zero, List.set_cons_succ, List.eraseIdx_cons_succ, List.eraseIdx_zero, List.tail_cons, List.nil_append, List.cons_append] at hs; refine W_norm rfl ?_)
      )
      | (refine K_code ?_; first
        | refine W_seq ?_
        | refine W_ops ?_
        | (refine W_cond rfl (fun hc => ?_) (fun hc => ?_) <;> (try rw [hc]) <;> (try simp only [decide_eq_true_eq, decide_eq_false_iff_not, beq_iff_eq, beq_eq_false_iff_ne, bne_iff_ne, bne_eq_false_iff_eq, Bool.not_eq_true', Bool.not_eq_false', Int.not_lt, Int.not_le, ne_eq, reduceCtorEq, not_true_eq_false, not_false_eq_true, Decidable.not_not] at hc) <;> (try (exfalso; omega)) <;> (try refine W_norm rfl ?_))
        | refine W_skip ?_
        | refine W_block ?_
      )
      | refine seqK_n ?_)
    generalize hx : B.getD (k : Int).toNat rcE.dflt = x at *
    have hpx : RcI x := by rw [← hx]; exact hp _ (getD_mem (by omega))
    replace hs : Sep R ([(al, .cells 37 .own (rcE.enc x))] :: pgO pid Z rv :: f :: hpOf F :: maO mid mw mh .nils cu :: bvO bv v :: M) _ := hs
    replace hs : Sep R (pgO pid Z rv :: f :: hpOf F :: maO mid mw mh .nils cu :: [(al, .cells 37 .own (rcE.enc x))] :: bvO bv v :: M) _ := hs.reord (fun a => by simp only [List.flatten_cons, List.flatten_nil, List.count_append, List.count_nil, hpOf_append, hpOf_cons, hpOf_nil, List.append_nil, List.eraseIdx_cons_succ, List.eraseIdx_zero, List.tail_cons] <;> omega)
    have hZF : PageR Z wd F.length := by rw [hsh.1]; exact hZ
    have hrows : (B.take (k + 1)).foldl (borderR Z) (H.map Hd.L) = borderR Z (F.map Hd.L) x := by
      rw [fold_take _ _ _ _ rc0 hlt, ← hF, ← hx]; rfl
    repeat' (first
      | (refine K_ops ?_; first
        | refine W_fastB rfl ?_
        | refine W_nil ?_
        | (refine K_call ?_; first
          | (refine W_callsN 19 rfl (w19 (b := x) hs hn hZF hsh.2 hpx) rfl ?_; rintro _ h5 ⟨rfl, G2, g2, hn2, hG2, hs⟩; refine W_norm rfl ?_)
        )
        | (refine K_bin ?_; first
          | (refine W_add rfl rfl (IntWalk.i64_in _ (by first | omega | (simp only [List.length_set, List.length_append, List.length_take, List.length_drop, List.length_replicate, List.length_cons, List.length_nil, decs_length, List.length_map]; omega))) ?_; refine W_norm rfl ?_)
        )
      )
      | (refine K_code ?_; first
        | refine W_ops ?_
      )
      | refine seqK_n ?_
      | refine blockK_n ?_
      | refine invK_n ?_)
    refine ⟨_, ?_, _, ⟨k + 1, G2, g2, rfl, rfl, ?_, hn2, ?_, hs.drop 4⟩, EnvB.of rfl⟩
    · omega
    · omega
    · rw [hG2, hrows]
  · repeat' (first
      | (refine K_ops ?_; first
        | refine W_fastB rfl ?_
        | refine W_nil ?_
      )
      | (refine K_code ?_; first
        | refine W_seq ?_
        | refine W_ops ?_
        | (refine W_cond rfl (fun hc => ?_) (fun hc => ?_) <;> (try rw [hc]) <;> (try simp only [decide_eq_true_eq, decide_eq_false_iff_not, beq_iff_eq, beq_eq_false_iff_ne, bne_iff_ne, bne_eq_false_iff_eq, Bool.not_eq_true', Bool.not_eq_false', Int.not_lt, Int.not_le, ne_eq, reduceCtorEq, not_true_eq_false, not_false_eq_true, Decidable.not_not] at hc) <;> (try (exfalso; omega)) <;> (try refine W_norm rfl ?_))
        | refine W_exit ?_
      )
      | refine seqK_n ?_
      | refine seqK_x ?_
      | refine blockK_e ?_
      | refine invK_x ?_)
    obtain rfl : k = B.length := by omega
    rw [List.take_of_length_le (Nat.le_refl _)] at hF
    exact ⟨_, _, rfl, hn, hF, hs, rfl, rfl, rfl, rfl, rfl, rfl, trivial⟩

theorem flat_len {rows : Rows'} {wd : Nat} (h : AllW rows wd) : rows.flatten.length = rows.length * wd := by
  induction rows with
  | nil => simp
  | cons l rows ih =>
    rw [List.flatten_cons, List.length_append, ih (fun x hx => h x (by simp [hx])), h l (by simp), List.length_cons, Nat.add_mul]; omega
theorem comp_flat {R : Ro} {M : List Hp} {h : Heap} {e : List AV} {pid bv res mid wd : Nat} {Z : Rc} {v : ViewV} {rv : SV} {H : List Hc} {c : Hp} {mw mh : Int} {cu : Curs} (hs : Sep R (pgO pid Z rv :: c :: hpOf H :: maO mid mw mh .nils cu :: bvO bv v :: M) h) (hn : NsO cellE 34 35 rv H c)
    (hZ : PageR Z wd H.length) (hA : AllW (H.map Hd.L) wd)
    (he : EnvIs 133 [(1, .sc (.ptr bv 0)), (2, .sc (.ptr res 0)), (3, i64 0), (4, .sc (.ptr pid 0)), (5, .sc (.ptr mid 0))] e) :
    W DD (.code (.seq (.ops m8_r24) (.block 6 (.loop m8_l25))) e h) (fun x e' h' => ∃ u d, x = .normal ∧ AccS cellE 34 u (H.map Hd.L).flatten d ∧ Sep R (d :: maO mid mw mh u cu :: bvO bv v :: M) h' ∧
      EnvIs 133 [(1, .sc (.ptr bv 0)), (2, .sc (.ptr res 0)), (3, i64 0), (4, .sc (.ptr pid 0)), (5, .sc (.ptr mid 0))] e') := by
  obtain ⟨us, rfl⟩ := he.list
  obtain ⟨_, hw1, hw2, hH⟩ := hZ
  have hln := hn.ln
  repeat' (first
    | (refine K_ops ?_; first
      | refine W_fastB rfl ?_
      | refine W_nil ?_
      | (refine W_lenL rfl (by first | assumption | exact SlR.ln (by assumption) | exact AccS.ln (by assumption) | exact OwnS.ln (by assumption) | exact VwO.ln (by assumption) | exact OwnP.ln (by assumption) | exact Len.sl) ?_; refine W_norm rfl ?_)
      | (refine K_load ?_; first
        | (refine W_loadC hs 0 rfl rfl rfl ?_; refine W_norm rfl ?_)
      )
    )
    | (refine K_code ?_; first
      | refine W_seq ?_
      | refine W_ops ?_
      | refine W_block ?_
    )
    | refine seqK_n ?_)
  have nv : NsR cellE ((R.add c).add (hpOf H)) rv (pairs H) := hn.add R
  replace hs : Sep ((R.add c).add (hpOf H)) ([] :: maO mid mw mh .nils cu :: bvO bv v :: M) h := (((hs.freeze 1 rfl).freeze 1 rfl).drop 0).nil
  have hv1 := nv.1
  refine W_loopB [11, 113, 114, 115, 116, 117, 118, 119, 120, 121, 122] [0, 1, 2, 3, 4, 5, 6, 7, 8, 9, 10, 11, 12, 13, 14, 15, 16, 17, 18, 19, 20, 21, 22, 23, 24, 25, 26, 27, 28, 29, 30, 31, 32, 33, 34, 35, 36, 37, 38, 39, 40, 41, 42, 43, 44, 45, 46, 47, 48, 49, 50, 51, 52, 53, 54, 55, 56, 57, 58, 59, 60, 61, 62, 63, 64, 65, 66, 67, 68, 69, 70, 71, 72, 73, 74, 75, 76, 77, 78, 79, 80, 81, 82, 83, 84, 85, 86, 87, 88, 89, 90, 91, 92, 93, 94, 95, 96, 97, 98, 99, 100, 101, 102, 103, 104, 105, 106, 107, 108, 109, 110, 111, 112, 113, 114, 115, 116, 117, 118, 119, 120, 121, 122, 123, 124, 125, 126, 127, 128, 129, 130, 131, 132] (fun n' sl h' => ∃ (k : Nat) (u : SV) (d : Hp), sl = [(113, .sc (.int .i64 (k : Int)))] ∧ n' = H.length - k ∧ k ≤ H.length ∧ AccS cellE 34 u ((H.map Hd.L).take k).flatten d ∧ Sep ((R.add c).add (hpOf H)) (d :: maO mid mw mh u cu :: bvO bv v :: M) h') ?_ ?_
  · refine ⟨_, _, ⟨0, .nils, [], rfl, rfl, Nat.zero_le _, AccS.nil _, hs⟩, EnvB.of rfl⟩
  clear hs
  rintro _ _ us _ h2 ⟨k, u, d, rfl, rfl, hk, ha, hs⟩ he
  refine W_spell he rfl ?_
  clear he
  unfold m8_l25
  have hmv : ((pairs H).map Prod.fst).length = H.length := by simp [pairs]
  by_cases hlt : k < H.length
  · have hrow := nv.row (i := k) (by rw [pairs_length]; exact hlt)
    have hrl : (((pairs H).map Prod.snd).getD k []).length = wd := by
      rw [pairs_snd]; exact hA.get (by rw [List.length_map]; exact hlt)
    have hfl : ((H.map Hd.L).take k).flatten.length = k * wd := by
      rw [flat_len (wd := wd) (fun x hx => hA x (List.mem_of_mem_take hx)), List.length_take, List.length_map, Nat.min_eq_left (by omega)]
    have hkw : k * wd ≤ 160000 := Nat.le_trans (Nat.mul_le_mul (show k ≤ 400 by omega) hw2) (by decide)
    repeat' (first
      | (refine K_ops ?_; first
        | refine W_fastB rfl ?_
        | refine W_nil ?_
        | (refine K_bin ?_; first
          | (refine W_add rfl rfl (IntWalk.i64_in _ (by first | omega | (simp only [List.length_set, List.length_append, List.length_take, List.length_drop, List.length_replicate, List.length_cons, List.length_nil, decs_length, List.length_map]; omega))) ?_; refine W_norm rfl ?_)
        )
        | (refine K_index ?_; first
          | (refine W_indexR rfl rfl (by assumption) rfl ⟨(by first | omega | (simp only [List.length_set, List.length_append, List.length_take, List.length_drop, List.length_replicate, List.length_cons, List.length_nil, decs_length, List.length_map]; omega)), (by first | omega | (simp only [List.length_set, List.length_append, List.length_take, List.length_drop, List.length_replicate, List.length_cons, List.length_nil, decs_length, List.length_map]; omega))⟩ ?_; intro _ _ _; refine W_norm rfl ?_)
        )
        | (refine K_load ?_; first
          | (refine W_loadR hs rfl (by assumption) rfl ?_; refine W_norm rfl ?_)
          | (refine W_loadC hs 1 rfl rfl rfl ?_; refine W_norm rfl ?_)
        )
        | (refine K_store ?_; first
          | (refine W_storeC hs 1 rfl rfl rfl rfl (by first | decide | assumption) rfl rfl ?_; clear hs; intro _ hs; try simp only [cell_back, attr_back, List.set_cons_zero, List.set_cons_succ, List.eraseIdx_cons_succ, List.eraseIdx_zero, List.tail_cons, List.nil_append, List.cons_append] at hs; refine W_norm rfl ?_)
        )
        | (refine K_append ?_; first
          | (refine W_appS hs 0 rfl rfl (by assumption) rfl (by first | assumption | exact SlR.now hs (by assumption) | exact AccS.now (by assumption) hs (by simp) | exact OwnS.now (by assumption) hs (by simp)) rfl ⟨by decide, (by first | omega | (simp only [List.length_set, List.length_append, List.length_take, List.length_drop, List.length_replicate, List.length_cons, List.length_nil, decs_length, List.length_map]; omega))⟩ ?_; clear hs; intro _ _ _ _ hs; try simp only [cell_back, attr_back, List.set_cons_zero, List.set_cons_succ, List.eraseIdx_cons_succ, List.eraseIdx_zero, List.tail_cons, List.nil_append, List.cons_append] at hs; refine W_norm rfl ?_)
        )
      )
      | (refine K_code ?_; first
        | refine W_seq ?_
        | refine W_ops ?_
        | (refine W_cond rfl (fun hc => ?_) (fun hc => ?_) <;> (try rw [hc]) <;> (try simp only [decide_eq_true_eq, decide_eq_false_iff_not, beq_iff_eq, beq_eq_false_iff_ne, bne_iff_ne, bne_eq_false_iff_eq, Bool.not_eq_true', Bool.not_eq_false', Int.not_lt, Int.not_le, ne_eq, reduceCtorEq, not_true_eq_false, not_false_eq_true, Decidable.not_not] at hc) <;> (try (exfalso; omega)) <;> (try refine W_norm rfl ?_))
        | refine W_skip ?_
        | refine W_block ?_
      )
      | refine seqK_n ?_
      | refine blockK_n ?_
      | refine invK_n ?_)
    replace hs : Sep _ (_ :: maO mid mw mh _ cu :: bvO bv v :: M) _ := hs
    have e1 : ((H.map Hd.L).take (k + 1)).flatten = ((H.map Hd.L).take k).flatten ++ ((pairs H).map Prod.snd).getD k [] := by
      rw [pairs_snd, List.take_add_one, List.flatten_append, List.getD_eq_getElem?_getD, List.getElem?_eq_getElem (by rw [List.length_map]; exact hlt)]
      simp
    refine ⟨_, ?_, _, ⟨k + 1, _, _, rfl, rfl, ?_, ?_, hs⟩, EnvB.of rfl⟩
    · omega
    · omega
    · rw [e1]; assumption
  · repeat' (first
      | (refine K_ops ?_; first
        | refine W_fastB rfl ?_
        | refine W_nil ?_
      )
      | (refine K_code ?_; first
        | refine W_seq ?_
        | refine W_ops ?_
        | (refine W_cond rfl (fun hc => ?_) (fun hc => ?_) <;> (try rw [hc]) <;> (try simp only [decide_eq_true_eq, decide_eq_false_iff_not, beq_iff_eq, beq_eq_false_iff_ne, bne_iff_ne, bne_eq_false_iff_eq, Bool.not_eq_true', Bool.not_eq_false', Int.not_lt, Int.not_le, ne_eq, reduceCtorEq, not_true_eq_false, not_false_eq_true, Decidable.not_not] at hc) <;> (try (exfalso; omega)) <;> (try refine W_norm rfl ?_))
        | refine W_exit ?_
      )
      | refine seqK_n ?_
      | refine seqK_x ?_
      | refine blockK_e ?_
      | refine invK_x ?_)
    obtain rfl : k = H.length := by omega
    rw [List.take_of_length_le (by simp)] at ha
    exact ⟨_, _, rfl, ha, hs.unadd.unadd, rfl, rfl, rfl, rfl, rfl, rfl, trivial⟩
end Go.Proofs.YtfmldkjidfigbaaDoor
/- Compose: Compose. -/
set_option linter.unusedSimpArgs false
set_option linter.unusedVariables false
set_option maxHeartbeats 1000000
set_option maxRecDepth 100000
namespace Go.Proofs.YtfmldkjidfigbaaDoor
open Go Go.Jx

def pgZ (v : ViewV) : Rc := ⟨0, 0, v.w, v.h - 1⟩
def OkV (v : ViewV) : Prop := 1 ≤ v.w ∧ v.w ≤ 400 ∧ 1 ≤ v.h ∧ v.h ≤ 400
def curs0 : Curs := ⟨0, 0, false⟩
def cellsC (v : ViewV) (ps : List PartM) (bs : List Rc) : List Cell := (pageR (pgZ v) ps bs).flatten ++ bannerL v.bn v.w.toNat
/-- What a view has, as it is read. -/
structure ViewOk (R : Ro) (ln : Lns) (v : ViewV) (P : List PartV) (B : List Rc) : Prop where
  ps : SlR partE R v.ps P
  bs : SlR rcE R v.bs B
  np : P.length ≤ 10000000000000
  nb : B.length ≤ 10000000000000
  p : ∀ p ∈ P, PartOk R ln p
  b : ∀ p ∈ B, RcI p
  s : v.bn.length ≤ 9223372036854775807
  w : InI v.w
  h : InI v.h
  x : InI v.x
  y : InI v.y
/-- A place where a walk stops. -/
structure Hold (p : Prop) : Prop where
  out : p
def ComposeIs (h : Heap) (v : ViewV) (ps : List PartM) (bs : List Rc) (r : AV) (h' : Heap) : Prop :=
  (OkV v ∧ ∃ u c, r = .tup [.agg (matL v.w v.h u (cursL (pgZ v) v.cur v.x v.y ps)), i64 0] ∧ AccS cellE 34 u (cellsC v ps bs) c ∧ Sep (Now h) [c] h') ∨
  (¬ OkV v ∧ r = .tup [.agg (matL 0 0 .nils curs0), i64 1] ∧ Sep (Now h) [] h')
theorem w8 {v : ViewV} {P : List PartV} {B : List Rc} {ln : Lns} {h : Heap} (hb : HasR (Now h)) (hv : ViewOk (Now h) ln v P B) :
    Wc DD 8 [.agg (viewL v)] h fun r h' => ComposeIs h v (P.map (pmOf ln)) B r h' := by
  have hs := Sep.entry h
  obtain ⟨v1, v2⟩ := hv.w
  obtain ⟨v3, v4⟩ := hv.h
  refine W_enter d8 ?_
  show W _ (.code m8_code [.agg (viewL v), undefA, undefA, undefA, undefA, undefA, undefA, undefA, undefA, undefA, undefA, undefA, undefA, undefA, undefA, undefA, undefA, undefA, undefA, undefA, undefA, undefA, undefA, undefA, undefA, undefA, undefA, undefA, undefA, undefA, undefA, undefA, undefA, undefA, undefA, undefA, undefA, undefA, undefA, undefA, undefA, undefA, undefA, undefA, undefA, undefA, undefA, undefA, undefA, undefA, undefA, undefA, undefA, undefA, undefA, undefA, undefA, undefA, undefA, undefA, undefA, undefA, undefA, undefA, undefA, undefA, undefA, undefA, undefA, undefA, undefA, undefA, undefA, undefA, undefA, undefA, undefA, undefA, undefA, undefA, undefA, undefA, undefA, undefA, undefA, undefA, undefA, undefA, undefA, undefA, undefA, undefA, undefA, undefA, undefA, undefA, undefA, undefA, undefA, undefA, undefA, undefA, undefA, undefA, undefA, undefA, undefA, undefA, undefA, undefA, undefA, undefA, undefA, undefA, undefA, undefA, undefA, undefA, undefA, undefA, undefA, undefA, undefA, undefA, undefA, undefA, undefA, undefA, undefA, undefA, undefA, undefA, undefA] _) _
  unfold m8_code
  repeat' (first
    | (refine K_ops ?_; first
      | refine W_fastB rfl ?_
      | refine W_nil ?_
      | (refine K_guard ?_; first
        | refine W_guard_on rfl ?_
        | refine W_guard_off rfl rfl (W_norm rfl ?_)
        | (refine W_guardF rfl (fun hc => ?_) (fun hc => ?_) <;> (try rw [hc]) <;> (try simp only [decide_eq_true_eq, decide_eq_false_iff_not, beq_iff_eq, beq_eq_false_iff_ne, bne_iff_ne, bne_eq_false_iff_eq, Bool.not_eq_true', Bool.not_eq_false', Int.not_lt, Int.not_le, ne_eq, reduceCtorEq, not_true_eq_false, not_false_eq_true, Decidable.not_not] at hc) <;> (try (exfalso; omega)) <;> (try refine W_norm rfl ?_))
      )
      | (refine K_pick ?_; first
        | refine W_pick_t rfl rfl (W_norm rfl ?_)
        | refine W_pick_f rfl rfl (W_norm rfl ?_)
      )
      | (refine K_load ?_; first
        | (refine W_loadC hs 1 rfl rfl rfl ?_; refine W_norm rfl ?_)
      )
      | (refine K_store ?_; first
        | (refine W_storeC hs 0 rfl rfl rfl rfl (by first | decide | assumption) rfl rfl ?_; clear hs; intro _ hs; try simp only [cell_back, attr_back, List.set_cons_zero, List.set_cons_succ, List.eraseIdx_cons_succ, List.eraseIdx_zero, List.tail_cons, List.nil_append, List.cons_append] at hs; refine W_norm rfl ?_)
      )
      | (refine W_allocS hs ?_; clear hs; intro al _ hs; try simp only [cell_back, attr_back, List.set_cons_zero, List.set_cons_succ, List.eraseIdx_cons_succ, List.eraseIdx_zero, List.tail_cons, List.nil_append, List.cons_append] at hs; refine W_norm rfl ?_)
      | (refine W_boxS hs rfl rfl ?_; clear hs; intro bx _ hs; try simp only [cell_back, attr_back, List.set_cons_zero, List.set_cons_succ, List.eraseIdx_cons_succ, List.eraseIdx_zero, List.tail_cons, List.nil_append, List.cons_append] at hs; refine W_norm rfl ?_)
      | (refine W_buildN rfl ?_; refine W_norm rfl ?_)
      | (refine W_min2 rfl rfl ?_; refine W_norm rfl ?_)
      | (refine W_max2 rfl rfl ?_; refine W_norm rfl ?_)
    )
    | (refine K_code ?_; first
      | (refine (Hold.out (p := W DD (.code (.seq (.ops m8_r3) _) _ _) _) ?_))
      | refine W_seq ?_
      | refine W_ops ?_
      | refine W_cond_t rfl ?_
      | (refine W_cond rfl (fun hc => ?_) (fun hc => ?_) <;> (try rw [hc]) <;> (try simp only [decide_eq_true_eq, decide_eq_false_iff_not, beq_iff_eq, beq_eq_false_iff_ne, bne_iff_ne, bne_eq_false_iff_eq, Bool.not_eq_true', Bool.not_eq_false', Int.not_lt, Int.not_le, ne_eq, reduceCtorEq, not_true_eq_false, not_false_eq_true, Decidable.not_not] at hc) <;> (try (exfalso; omega)) <;> (try refine W_norm rfl ?_))
      | refine W_skip ?_
      | refine W_ret ?_
    )
    | refine seqK_n ?_
    | refine seqK_r ?_
    | (refine fnK_cellT hs 0 rfl rfl rfl rfl rfl rfl ?_))
  · exact ⟨_, rfl, .inr ⟨fun h => by unfold OkV at h; omega, rfl, (hs.drop 0).drop 0⟩⟩
  · obtain ⟨bv, rfl⟩ : ∃ b, b = bx := ⟨_, rfl⟩
    obtain ⟨res, rfl⟩ : ∃ b, b = al := ⟨_, rfl⟩
    have hok : OkV v := by unfold OkV; omega
    refine ⟨?_⟩
    repeat' (first
      | (refine K_ops ?_; first
        | refine W_fastB rfl ?_
        | refine W_nil ?_
        | (refine K_bin ?_; first
          | (refine W_sub rfl rfl (IntWalk.i64_in _ (by first | omega | (simp only [List.length_set, List.length_append, List.length_take, List.length_drop, List.length_replicate, List.length_cons, List.length_nil, decs_length, List.length_map]; omega))) ?_; refine W_norm rfl ?_)
        )
        | (refine K_load ?_; first
          | (refine W_loadC hs 1 rfl rfl rfl ?_; refine W_norm rfl ?_)
        )
        | (refine W_boxS hs rfl rfl ?_; clear hs; intro bx _ hs; try simp only [cell_back, attr_back, List.set_cons_zero, List.set_cons_succ, List.eraseIdx_cons_succ, List.eraseIdx_zero, List.tail_cons, List.nil_append, List.cons_append] at hs; refine W_norm rfl ?_)
        | (refine W_buildN rfl ?_; refine W_norm rfl ?_)
      )
      | (refine K_code ?_; first
        | (refine (Hold.out (p := W DD (.code (.seq (.ops m8_r4) _) _ _) _) ?_))
        | refine W_seq ?_
        | refine W_ops ?_
      )
      | refine seqK_n ?_)
    refine ⟨?_⟩
    replace hs : Sep (Now h) (pgO bx (pgZ v) .nils :: maO res 0 0 .nils curs0 :: bvO bv v :: []) _ := hs
    replace hs : Sep (Now h) (pgO bx (pgZ v) .nils :: bvO bv v :: maO res 0 0 .nils curs0 :: []) _ := hs.reord (fun a => by simp only [List.flatten_cons, List.flatten_nil, List.count_append, List.count_nil, hpOf_append, hpOf_cons, hpOf_nil, List.append_nil, List.eraseIdx_cons_succ, List.eraseIdx_zero, List.tail_cons] <;> omega)
    refine (comp_rows hs (by omega) (by omega) ⟨rfl, rfl, rfl, rfl, rfl, trivial⟩).mono ?_
    rintro _ e3 h3 ⟨rv, c, H, rfl, hn, hH, hs, he3⟩
    obtain ⟨us, rfl⟩ := he3.list
    have hHl : H.length = (v.h - 1).toNat := by
      have := congrArg List.length hH
      rwa [List.length_map, List.length_replicate] at this
    have hZ : PageR (pgZ v) v.w.toNat H.length := by
      refine ⟨?_, by omega, by omega, by omega⟩
      rw [hHl]
      unfold pgZ
      congr 1 <;> omega
    have hA : AllW (H.map Hd.L) v.w.toNat := by
      rw [hH]
      intro l hl
      rw [(List.mem_replicate.1 hl).2, List.length_replicate]
    repeat' (first
      | (refine K_ops ?_; first
        | refine W_fastB rfl ?_
        | refine W_nil ?_
        | (refine K_load ?_; first
          | (refine W_loadC hs 3 rfl rfl rfl ?_; refine W_norm rfl ?_)
        )
        | (refine K_store ?_; first
          | (refine W_storeC hs 0 rfl rfl rfl rfl (by first | decide | assumption) rfl rfl ?_; clear hs; intro _ hs; try simp only [cell_back, attr_back, List.set_cons_zero, List.set_cons_succ, List.eraseIdx_cons_succ, List.eraseIdx_zero, List.tail_cons, List.nil_append, List.cons_append] at hs; refine W_norm rfl ?_)
        )
        | (refine W_allocS hs ?_; clear hs; intro al _ hs; try simp only [cell_back, attr_back, List.set_cons_zero, List.set_cons_succ, List.eraseIdx_cons_succ, List.eraseIdx_zero, List.tail_cons, List.nil_append, List.cons_append] at hs; refine W_norm rfl ?_)
        | (refine W_buildN rfl ?_; refine W_norm rfl ?_)
      )
      | (refine K_code ?_; first
        | (refine (Hold.out (p := W DD (.code (.seq (.ops m8_r10) _) _ _) _) ?_))
        | refine W_seq ?_
        | refine W_ops ?_
      )
      | refine seqK_n ?_)
    refine ⟨?_⟩
    obtain ⟨mid, rfl⟩ : ∃ b, b = al := ⟨_, rfl⟩
    replace hs : Sep (Now h) (maO mid v.w v.h .nils ⟨0, 0, false⟩ :: pgO bx (pgZ v) rv :: c :: hpOf H :: bvO bv v :: maO res 0 0 .nils curs0 :: []) _ := hs
    replace hs : Sep (Now h) (pgO bx (pgZ v) rv :: c :: hpOf H :: maO mid v.w v.h .nils ⟨0, 0, false⟩ :: bvO bv v :: maO res 0 0 .nils curs0 :: []) _ := hs.reord (fun a => by simp only [List.flatten_cons, List.flatten_nil, List.count_append, List.count_nil, hpOf_append, hpOf_cons, hpOf_nil, List.append_nil, List.eraseIdx_cons_succ, List.eraseIdx_zero, List.tail_cons] <;> omega)
    refine (comp_parts hs hn hZ hA hb hv.ps hv.np hv.p ⟨rfl, rfl, rfl, rfl, rfl, rfl, trivial⟩).mono ?_
    clear hs hn
    rintro _ e4 h4 ⟨c2, H2, rfl, hn2, hH2, hs, he4⟩
    obtain ⟨us2, rfl⟩ := he4.list
    have hsh := fold_shape (P.map (pmOf ln)) (rows := H.map Hd.L) (by rw [List.length_map]; exact hZ) hA (fun q hq => by
      obtain ⟨x, hx, rfl⟩ := List.mem_map.1 hq
      exact (hv.p x hx).1)
    rw [← hH2, List.length_map, List.length_map] at hsh
    have hZ2 : PageR (pgZ v) v.w.toNat H2.length := by rw [hsh.1]; exact hZ
    repeat' (first
      | (refine K_code ?_; first
        | (refine (Hold.out (p := W DD (.code (.seq (.ops m8_r18) _) _ _) _) ?_))
        | refine W_seq ?_
      )
      | refine seqK_n ?_)
    refine ⟨?_⟩
    refine (comp_borders hs hn2 hZ2 hsh.2 hv.bs hv.nb hv.b ⟨rfl, rfl, rfl, rfl, rfl, rfl, trivial⟩).mono ?_
    clear hs hn2
    rintro _ e5 h5 ⟨c3, H3, rfl, hn3, hH3, hs, he5⟩
    obtain ⟨us3, rfl⟩ := he5.list
    have hsh3 := border_shape B (rows := H2.map Hd.L) (by rw [List.length_map]; exact hZ2) hsh.2 hv.b
    rw [← hH3, List.length_map, List.length_map] at hsh3
    have hZ3 : PageR (pgZ v) v.w.toNat H3.length := by rw [hsh3.1]; exact hZ2
    repeat' (first
      | (refine K_code ?_; first
        | (refine (Hold.out (p := W DD (.code (.seq (.ops m8_r24) _) _ _) _) ?_))
        | refine W_seq ?_
      )
      | refine seqK_n ?_)
    refine ⟨?_⟩
    refine (comp_flat hs hn3 hZ3 hsh3.2 ⟨rfl, rfl, rfl, rfl, rfl, rfl, trivial⟩).mono ?_
    clear hs hn3
    rintro _ e6 h6 ⟨u, d, rfl, hu, hs, he6⟩
    obtain ⟨us4, rfl⟩ := he6.list
    have hfl : (H3.map Hd.L).flatten.length ≤ 160000 := by
      rw [flat_len hsh3.2, List.length_map]
      exact Nat.le_trans (Nat.mul_le_mul (show H3.length ≤ 400 by omega) (show v.w.toNat ≤ 400 by omega)) (by decide)
    have hbl : (bannerL v.bn v.w.toNat).length = v.w.toNat := by simp [bannerL]
    have hpg : (H3.map Hd.L) = pageR (pgZ v) (P.map (pmOf ln)) B := by
      rw [hH3, hH2, hH]
      rfl
    repeat' (first
      | (refine K_ops ?_; first
        | refine W_fastB rfl ?_
        | refine W_nil ?_
        | (refine K_call ?_; first
          | (refine W_callsN 20 rfl (w20 (show 1 ≤ v.w ∧ v.w ≤ 400 by omega) hv.s) rfl ?_; rintro _ h7 ⟨u2, d2, rfl, q2, t⟩; have hs := hs.call t; try simp only [cell_back, attr_back, List.set_cons_zero, List.set_cons_succ, List.eraseIdx_cons_succ, List.eraseIdx_zero, List.tail_cons, List.nil_append, List.cons_append] at hs; refine W_norm rfl ?_)
        )
        | (refine K_load ?_; first
          | (refine W_loadC hs 1 rfl rfl rfl ?_; refine W_norm rfl ?_)
          | (refine W_loadC hs 2 rfl rfl rfl ?_; refine W_norm rfl ?_)
          | (refine W_loadCA hs 2 rfl rfl rfl ?_; refine W_norm rfl ?_)
        )
        | (refine K_store ?_; first
          | (refine W_storeC hs 2 rfl rfl rfl rfl (by first | decide | assumption) rfl rfl ?_; intro _ hs; try simp only [cell_back, attr_back, List.set_cons_zero, List.set_cons_succ, List.eraseIdx_cons_succ, List.eraseIdx_zero, List.tail_cons, List.nil_append, List.cons_append] at hs; refine W_norm rfl ?_)
          | (refine W_storeC hs 4 rfl rfl rfl rfl (by first | decide | assumption) rfl rfl ?_; intro _ hs; try simp only [cell_back, attr_back, List.set_cons_zero, List.set_cons_succ, List.eraseIdx_cons_succ, List.eraseIdx_zero, List.tail_cons, List.nil_append, List.cons_append] at hs; refine W_norm rfl ?_)
        )
        | (refine K_append ?_; first
          | (refine W_appS hs 1 rfl rfl (by assumption) rfl (by first | assumption | exact SlR.now hs (by assumption) | exact AccS.now (by assumption) hs (by simp) | exact OwnS.now (by assumption) hs (by simp)) rfl ⟨by decide, (by first | omega | (simp only [List.length_set, List.length_append, List.length_take, List.length_drop, List.length_replicate, List.length_cons, List.length_nil, decs_length, List.length_map]; omega))⟩ ?_; intro _ _ _ _ hs; try simp only [cell_back, attr_back, List.set_cons_zero, List.set_cons_succ, List.eraseIdx_cons_succ, List.eraseIdx_zero, List.tail_cons, List.nil_append, List.cons_append] at hs; refine W_norm rfl ?_)
        )
      )
      | (refine K_code ?_; first
        | refine W_seq ?_
        | refine W_ops ?_
        | refine W_ret ?_
        | refine W_draws ?_
      )
      | refine W_dstep rfl ?_
      | refine ⟨rfl, fun rc hrec => ?_⟩
      | (refine W_dnilS (by simp only [List.reverse_cons, List.reverse_nil, List.nil_append, List.cons_append]; rfl) (by repeat' first | exact CL_nil _ _ | refine CL_skip rfl ?_ | refine CL_load (by assumption) rfl (by first | exact trivial | (repeat' first | exact trivial | refine ⟨⟨_, rfl, (by refine (congrArg (fun x => Heap.get x _) (RecIs.hh (by assumption))).trans ?_; first | rfl | exact PtR.same_get (by assumption) (by assumption) (by assumption) | exact Sep.same_get (by assumption) (by assumption) 0 0 rfl rfl | exact Sep.same_get (by assumption) (by assumption) 0 1 rfl rfl | exact Sep.same_get (by assumption) (by assumption) 0 2 rfl rfl | exact Sep.same_get (by assumption) (by assumption) 0 3 rfl rfl | exact Sep.same_get (by assumption) (by assumption) 0 4 rfl rfl | exact Sep.same_get (by assumption) (by assumption) 0 5 rfl rfl | exact Sep.same_get (by assumption) (by assumption) 1 0 rfl rfl | exact Sep.same_get (by assumption) (by assumption) 1 1 rfl rfl | exact Sep.same_get (by assumption) (by assumption) 1 2 rfl rfl | exact Sep.same_get (by assumption) (by assumption) 1 3 rfl rfl | exact Sep.same_get (by assumption) (by assumption) 1 4 rfl rfl | exact Sep.same_get (by assumption) (by assumption) 1 5 rfl rfl | exact Sep.same_get (by assumption) (by assumption) 2 0 rfl rfl | exact Sep.same_get (by assumption) (by assumption) 2 1 rfl rfl | exact Sep.same_get (by assumption) (by assumption) 2 2 rfl rfl | exact Sep.same_get (by assumption) (by assumption) 2 3 rfl rfl | exact Sep.same_get (by assumption) (by assumption) 2 4 rfl rfl | exact Sep.same_get (by assumption) (by assumption) 2 5 rfl rfl | exact Sep.same_get (by assumption) (by assumption) 3 0 rfl rfl | exact Sep.same_get (by assumption) (by assumption) 3 1 rfl rfl | exact Sep.same_get (by assumption) (by assumption) 3 2 rfl rfl | exact Sep.same_get (by assumption) (by assumption) 3 3 rfl rfl | exact Sep.same_get (by assumption) (by assumption) 3 4 rfl rfl | exact Sep.same_get (by assumption) (by assumption) 3 5 rfl rfl | exact Sep.same_get (by assumption) (by assumption) 4 0 rfl rfl | exact Sep.same_get (by assumption) (by assumption) 4 1 rfl rfl | exact Sep.same_get (by assumption) (by assumption) 4 2 rfl rfl | exact Sep.same_get (by assumption) (by assumption) 4 3 rfl rfl | exact Sep.same_get (by assumption) (by assumption) 4 4 rfl rfl | exact Sep.same_get (by assumption) (by assumption) 4 5 rfl rfl | exact Sep.same_get (by assumption) (by assumption) 5 0 rfl rfl | exact Sep.same_get (by assumption) (by assumption) 5 1 rfl rfl | exact Sep.same_get (by assumption) (by assumption) 5 2 rfl rfl | exact Sep.same_get (by assumption) (by assumption) 5 3 rfl rfl | exact Sep.same_get (by assumption) (by assumption) 5 4 rfl rfl | exact Sep.same_get (by assumption) (by assumption) 5 5 rfl rfl)⟩, ?_⟩)) (by first | exact trivial | (repeat' first | exact trivial | refine ⟨⟨_, rfl, (by refine (congrArg (fun x => Heap.get x _) (RecIs.hh' (by assumption))).trans ?_; first | rfl | exact PtR.same_get (by assumption) (by assumption) (by assumption) | exact Sep.same_get (by assumption) (by assumption) 0 0 rfl rfl | exact Sep.same_get (by assumption) (by assumption) 0 1 rfl rfl | exact Sep.same_get (by assumption) (by assumption) 0 2 rfl rfl | exact Sep.same_get (by assumption) (by assumption) 0 3 rfl rfl | exact Sep.same_get (by assumption) (by assumption) 0 4 rfl rfl | exact Sep.same_get (by assumption) (by assumption) 0 5 rfl rfl | exact Sep.same_get (by assumption) (by assumption) 1 0 rfl rfl | exact Sep.same_get (by assumption) (by assumption) 1 1 rfl rfl | exact Sep.same_get (by assumption) (by assumption) 1 2 rfl rfl | exact Sep.same_get (by assumption) (by assumption) 1 3 rfl rfl | exact Sep.same_get (by assumption) (by assumption) 1 4 rfl rfl | exact Sep.same_get (by assumption) (by assumption) 1 5 rfl rfl | exact Sep.same_get (by assumption) (by assumption) 2 0 rfl rfl | exact Sep.same_get (by assumption) (by assumption) 2 1 rfl rfl | exact Sep.same_get (by assumption) (by assumption) 2 2 rfl rfl | exact Sep.same_get (by assumption) (by assumption) 2 3 rfl rfl | exact Sep.same_get (by assumption) (by assumption) 2 4 rfl rfl | exact Sep.same_get (by assumption) (by assumption) 2 5 rfl rfl | exact Sep.same_get (by assumption) (by assumption) 3 0 rfl rfl | exact Sep.same_get (by assumption) (by assumption) 3 1 rfl rfl | exact Sep.same_get (by assumption) (by assumption) 3 2 rfl rfl | exact Sep.same_get (by assumption) (by assumption) 3 3 rfl rfl | exact Sep.same_get (by assumption) (by assumption) 3 4 rfl rfl | exact Sep.same_get (by assumption) (by assumption) 3 5 rfl rfl | exact Sep.same_get (by assumption) (by assumption) 4 0 rfl rfl | exact Sep.same_get (by assumption) (by assumption) 4 1 rfl rfl | exact Sep.same_get (by assumption) (by assumption) 4 2 rfl rfl | exact Sep.same_get (by assumption) (by assumption) 4 3 rfl rfl | exact Sep.same_get (by assumption) (by assumption) 4 4 rfl rfl | exact Sep.same_get (by assumption) (by assumption) 4 5 rfl rfl | exact Sep.same_get (by assumption) (by assumption) 5 0 rfl rfl | exact Sep.same_get (by assumption) (by assumption) 5 1 rfl rfl | exact Sep.same_get (by assumption) (by assumption) 5 2 rfl rfl | exact Sep.same_get (by assumption) (by assumption) 5 3 rfl rfl | exact Sep.same_get (by assumption) (by assumption) 5 4 rfl rfl | exact Sep.same_get (by assumption) (by assumption) 5 5 rfl rfl)⟩, ?_⟩)) ?_) ?_)
      | refine seqK_n ?_
      | (refine fnK_cellT hs 4 rfl rfl rfl rfl rfl rfl ?_))
    refine ⟨_, rfl, .inl ⟨hok, _, _, rfl, ?_, (hs.drop 0).hd⟩⟩
    unfold cellsC
    rw [← hpg]
    assumption
  · exact ⟨_, rfl, .inr ⟨fun h => by unfold OkV at h; omega, rfl, (hs.drop 0).drop 0⟩⟩
end Go.Proofs.YtfmldkjidfigbaaDoor
/- Compose, in plain Lean: the law. -/
set_option linter.unusedSimpArgs false
set_option linter.unusedVariables false
set_option maxHeartbeats 1000000
set_option maxRecDepth 100000
namespace Go.Proofs.YtfmldkjidfigbaaDoor
open Go Go.Jx

theorem tidyL_get {L : List Cell} {i : Nat} (h : i < L.length) : (tidyL L)[i]? = some (tidyC L i) := by
  unfold tidyL
  rw [List.getElem?_map, List.getElem?_range h]; rfl
theorem rightC_w (c : Cell) : (rightC c).w = c.w := by unfold rightC; split <;> rfl
theorem tidyC_w (L : List Cell) (i : Nat) : (tidyC L i).w = if keepB L i then (L.getD i cell0).w else 0 := by
  unfold tidyC
  rw [rightC_w]
  split <;> rfl
theorem halves_w {L : List Cell} {i : Nat} (h : halvesB L i = true) : i + 1 < L.length ∧ (L.getD i cell0).w = 1 ∧ (L.getD (i + 1) cell0).w = 2 := by
  unfold halvesB oneB at h
  simp only [Bool.and_eq_true, decide_eq_true_eq, Int.toNat_natCast] at h
  obtain ⟨h1, h2, h3, h4, h5⟩ := h
  refine ⟨by omega, h3, by rw [h5]⟩
theorem tidy_whole (L : List Cell) : W3 (tidyL L) := by
  intro i c hc
  have hi : i < L.length := by
    have := (List.getElem?_eq_some_iff.1 hc).1
    rwa [tidyL_length] at this
  rw [tidyL_get hi, Option.some.injEq] at hc
  subst hc
  rw [tidyC_w]
  by_cases hk : keepB L i = true
  · rw [if_pos hk]
    have hk' := hk
    unfold keepB at hk'
    rw [Bool.or_eq_true, Bool.or_eq_true] at hk'
    rcases hk' with h | h | h
    · unfold singleB at h
      simp only [Bool.and_eq_true, decide_eq_true_eq] at h
      exact .inl h.1
    · obtain ⟨h1, h2, h3⟩ := halves_w h
      refine .inr (.inl ⟨h2, tidyC L (i + 1), tidyL_get h1, ?_⟩)
      rw [tidyC_w, if_pos, h3]
      unfold keepB
      rw [show (((i + 1 : Nat) : Int) - 1) = (i : Int) by omega, h]
      simp
    · cases i with
      | zero =>
        unfold halvesB at h
        simp at h
      | succ j =>
        rw [show (((j + 1 : Nat) : Int) - 1) = (j : Int) by omega] at h
        obtain ⟨h1, h2, h3⟩ := halves_w h
        refine .inr (.inr ⟨h3, j, tidyC L j, rfl, tidyL_get (by omega), ?_⟩)
        rw [tidyC_w, if_pos, h2]
        unfold keepB
        rw [h]
        simp
  · rw [if_neg hk]; exact .inl rfl
theorem line_whole (p : PartM) (y : Int) (z : Rc) : W3 (lineL p y z) := by
  unfold lineL
  split
  · exact W3_blanks _ _
  · exact resizeL_whole (deleteL_whole (resizeL_whole (tidy_whole _)))
theorem rep_narrow {n : Nat} {c : Cell} (h : c.w = 0) : narrow (List.replicate n c) := by
  intro i hi
  rw [List.length_replicate] at hi
  rw [List.getD_eq_getElem?_getD, List.getElem?_replicate, if_pos hi]; exact h
theorem narrow_whole {l : List Cell} (h : narrow l) : W3 l := by
  intro i c hc
  have hi := (List.getElem?_eq_some_iff.1 hc).1
  have := h i hi
  rw [List.getD_eq_getElem?_getD, hc] at this
  exact .inl this
/-- All rows of a length, and whole. -/
def AllG (rows : Rows') (wd : Nat) : Prop := ∀ l ∈ rows, l.length = wd ∧ W3 l
theorem AllG.w {rows : Rows'} {wd : Nat} (h : AllG rows wd) : AllW rows wd := fun l hl => (h l hl).1
theorem AllG.get {rows : Rows'} {wd y : Nat} (h : AllG rows wd) (hy : y < rows.length) : (rows.getD y []).length = wd ∧ W3 (rows.getD y []) := by
  rw [List.getD_eq_getElem?_getD, List.getElem?_eq_getElem hy]; exact h _ (List.getElem_mem hy)
theorem drawN_good {rows : Rows'} {x y0 wd n : Nat} {f : Nat → List Cell} (h : AllG rows wd) (hf : ∀ k, x + (f k).length ≤ wd ∧ 1 ≤ (f k).length ∧ W3 (f k)) (hn : y0 + n ≤ rows.length) : AllG (drawN rows x y0 f n) wd := by
  induction n with
  | zero => exact h
  | succ n ih =>
    have ih := ih (by omega)
    have hl := drawN_length rows x y0 f n
    unfold drawN
    intro l hm
    rcases List.mem_or_eq_of_mem_set hm with hm | rfl
    · exact ih l hm
    · obtain ⟨h1, h2⟩ := ih.get (y := y0 + n) (by omega)
      obtain ⟨f1, f2, f3⟩ := hf (y0 + n)
      exact ⟨by rw [putsL_length (by rw [h1]; exact f1)]; exact h1, puts_whole (by rw [h1]; exact f1) f2 h2 f3⟩
/-- How a rectangle of a page lies. -/
theorem in_page {z : Rc} {wd n : Nat} (hin : InZ z wd n) : (z.h = 0 ∨ (1 ≤ z.w ∧ z.x + z.w ≤ wd ∧ 1 ≤ z.h)) ∧ 0 ≤ z.x ∧ 0 ≤ z.y ∧ 0 ≤ z.h ∧ z.y + z.h ≤ n := by
  rcases hin with h | h
  · rw [h]; simp [rc0]
  · omega
theorem fills_good {z : Rc} {wd : Nat} {rows : Rows'} {C : Cell} (h : AllG rows wd) (hin : InZ z wd rows.length) (hC : C.w = 0) : (fillsR rows z C).length = rows.length ∧ AllG (fillsR rows z C) wd := by
  obtain ⟨h1, h2, h3, h4, h5⟩ := in_page hin
  obtain ⟨xn, hxn⟩ : ∃ j : Nat, z.x = (j : Int) := ⟨z.x.toNat, by omega⟩
  unfold fillsR
  rw [hxn]
  refine ⟨drawN_length _ _ _ _ _, ?_⟩
  rcases h1 with h0 | h0
  · rw [h0]; exact h
  · exact drawN_good h (fun k => ⟨by rw [List.length_replicate]; omega, by rw [List.length_replicate]; omega, narrow_whole (rep_narrow hC)⟩) (by omega)
theorem part_good {Z : Rc} {wd : Nat} {rows : Rows'} {p : PartM} (hZ : PageR Z wd rows.length) (h : AllG rows wd) (hp : RcI p.r) : (partR Z rows p).length = rows.length ∧ AllG (partR Z rows p) wd := by
  have hin := crop_in hZ hp
  obtain ⟨_, hw1, hw2, hw3⟩ := hZ
  unfold partR
  generalize cropR p.r Z = z at *
  split
  · obtain ⟨h1, h2, h3, h4, h5⟩ := in_page hin
    obtain ⟨xn, hxn⟩ : ∃ j : Nat, z.x = (j : Int) := ⟨z.x.toNat, by omega⟩
    refine ⟨drawN_length _ _ _ _ _, ?_⟩
    rcases h1 with h0 | h0
    · rw [h0]; exact h
    · rw [hxn]
      exact drawN_good h (fun k => ⟨by rw [lineL_length (by omega)]; omega, by rw [lineL_length (by omega)]; omega, line_whole _ _ _⟩) (by omega)
  · exact fills_good h hin rfl
theorem bord_good {Z b : Rc} {wd : Nat} {rows : Rows'} (hZ : PageR Z wd rows.length) (h : AllG rows wd) (hp : RcI b) : (borderR Z rows b).length = rows.length ∧ AllG (borderR Z rows b) wd := fills_good h (crop_in hZ hp) rfl
theorem parts_good {Z : Rc} {wd : Nat} (l : List PartM) : ∀ {rows : Rows'}, PageR Z wd rows.length → AllG rows wd → (∀ p ∈ l, RcI p.r) → (l.foldl (partR Z) rows).length = rows.length ∧ AllG (l.foldl (partR Z) rows) wd := by
  induction l with
  | nil => intro rows _ hA _; exact ⟨rfl, hA⟩
  | cons p l ih =>
    intro rows hZ hA hp
    obtain ⟨h1, h2⟩ := part_good hZ hA (hp p (by simp))
    obtain ⟨h3, h4⟩ := ih (rows := partR Z rows p) (by rw [h1]; exact hZ) h2 (fun q hq => hp q (by simp [hq]))
    exact ⟨by rw [List.foldl_cons, h3, h1], by rw [List.foldl_cons]; exact h4⟩
theorem bords_good {Z : Rc} {wd : Nat} (l : List Rc) : ∀ {rows : Rows'}, PageR Z wd rows.length → AllG rows wd → (∀ p ∈ l, RcI p) → (l.foldl (borderR Z) rows).length = rows.length ∧ AllG (l.foldl (borderR Z) rows) wd := by
  induction l with
  | nil => intro rows _ hA _; exact ⟨rfl, hA⟩
  | cons p l ih =>
    intro rows hZ hA hp
    obtain ⟨h1, h2⟩ := bord_good hZ hA (hp p (by simp))
    obtain ⟨h3, h4⟩ := ih (rows := borderR Z rows p) (by rw [h1]; exact hZ) h2 (fun q hq => hp q (by simp [hq]))
    exact ⟨by rw [List.foldl_cons, h3, h1], by rw [List.foldl_cons]; exact h4⟩
theorem banner_narrow (s : List UInt8) (n : Nat) : narrow (bannerL s n) := by
  intro i hi
  unfold bannerL at hi ⊢
  rw [List.length_map, List.length_range] at hi
  rw [List.getD_eq_getElem?_getD, List.getElem?_map, List.getElem?_range hi]
  show (bannerC s i).w = 0
  unfold bannerC
  split <;> rfl
end Go.Proofs.YtfmldkjidfigbaaDoor
