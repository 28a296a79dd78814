import Derived.Test.YtfmldkjidfigbaaDoorJxM25G
import Derived.Test.YtfmldkjidfigbaaDoorJxM25H
/- Compose, in plain Lean: ComposeConfined. -/
set_option linter.unusedSimpArgs false
set_option linter.unusedVariables false
set_option maxHeartbeats 1000000
set_option maxRecDepth 100000
namespace Go.Proofs.YtfmldkjidfigbaaDoor
open Go Go.Jx

/-- Two runs' rows: they differ only inside a rectangle. -/
def SameR (z : Rc) (a b : Rows') : Prop := a.length = b.length ∧ ∀ y, y < a.length → if z.y ≤ y ∧ (y : Int) < z.y + z.h then Agree z.x.toNat (z.x + z.w).toNat (a.getD y []) (b.getD y []) else a.getD y [] = b.getD y []
/-- What is laid over both, beside the rectangle or narrow. -/
theorem same_draw {z z' : Rc} {a b : Rows'} {wd : Nat} {f : Nat → List Cell} (h : SameR z a b) (ha : AllW a wd) (hz0 : 0 ≤ z.x) (hin : InZ z' wd a.length) (hf : ∀ y, 1 ≤ z'.w → (f y).length = z'.w.toNat)
    (hd : ∀ y : Nat, narrow (f y) ∨ (W3 (f y) ∧ (z.y ≤ y → (y : Int) < z.y + z.h → z'.y ≤ y → (y : Int) < z'.y + z'.h → 1 ≤ z.w → z'.x + z'.w ≤ z.x ∨ z.x + z.w ≤ z'.x))) : SameR z (drawN a z'.x z'.y.toNat f z'.h.toNat) (drawN b z'.x z'.y.toNat f z'.h.toNat) := by
  obtain ⟨h1, h2, h3, h4, h5⟩ := in_page hin
  obtain ⟨xn, hxn⟩ : ∃ j : Nat, z'.x = (j : Int) := ⟨z'.x.toNat, by omega⟩
  refine ⟨by rw [drawN_length, drawN_length]; exact h.1, fun y hy => ?_⟩
  rw [drawN_length] at hy
  have hc := h.2 y hy
  have hl := ha.get hy
  rw [drawN_get _ _ _ _ _ (by omega), drawN_get _ _ _ _ _ (by rw [← h.1]; omega)]
  by_cases hyz : z'.y.toNat ≤ y ∧ y < z'.y.toNat + z'.h.toNat
  · rw [if_pos hyz, if_pos hyz]
    have hfl := hf y (by omega)
    by_cases hr : z.y ≤ y ∧ (y : Int) < z.y + z.h
    · rw [if_pos hr] at hc ⊢
      rw [hxn]
      refine agree_puts hc (by rw [hl, hfl]; omega) (by rw [hfl]; omega) ?_
      rcases hd y with q | ⟨q1, q2⟩
      · exact .inl q
      · refine .inr ⟨q1, fun hab => ?_⟩
        have := q2 hr.1 hr.2 (by omega) (by omega) (by omega)
        rw [hfl]
        omega
    · rw [if_neg hr] at hc ⊢
      rw [hc]
  · rw [if_neg hyz, if_neg hyz]; exact hc
/-- The part itself. -/
theorem same_self {z : Rc} {a : Rows'} {wd : Nat} {f g : Nat → List Cell} (ha : AllW a wd) (hin : InZ z wd a.length) (hf : ∀ y, 1 ≤ z.w → (f y).length = z.w.toNat ∧ (g y).length = z.w.toNat) (hw : ∀ y, W3 (f y) ∧ W3 (g y)) : SameR z (drawN a z.x z.y.toNat f z.h.toNat) (drawN a z.x z.y.toNat g z.h.toNat) := by
  obtain ⟨h1, h2, h3, h4, h5⟩ := in_page hin
  obtain ⟨xn, hxn⟩ : ∃ j : Nat, z.x = (j : Int) := ⟨z.x.toNat, by omega⟩
  refine ⟨by rw [drawN_length, drawN_length], fun y hy => ?_⟩
  rw [drawN_length] at hy
  have hl := ha.get hy
  rw [drawN_get _ _ _ _ _ (by omega), drawN_get _ _ _ _ _ (by omega)]
  by_cases hr : z.y ≤ y ∧ (y : Int) < z.y + z.h
  · rw [if_pos hr, if_pos (by omega), if_pos (by omega)]
    obtain ⟨f1, f2⟩ := hf y (by omega)
    have e : (z.x + z.w).toNat = xn + (f y).length := by rw [f1]; omega
    rw [e, hxn, Int.toNat_natCast]
    exact agree_part (by rw [hl, f1]; omega) (by rw [f1]; omega) (by rw [f1, f2]) (hw y).1 (hw y).2
  · rw [if_neg hr, if_neg (by omega), if_neg (by omega)]
/-- Two that do not meet, cropped. -/
theorem crop_beside {p q Z : Rc} {wd n : Nat} (hZ : PageR Z wd n) (hp : RcI p) (hq : RcI q) (h : cropR p q = rc0) (y : Nat) (h1 : (cropR p Z).y ≤ y) (h2 : (y : Int) < (cropR p Z).y + (cropR p Z).h) (h3 : (cropR q Z).y ≤ y) (h4 : (y : Int) < (cropR q Z).y + (cropR q Z).h) : (cropR q Z).x + (cropR q Z).w ≤ (cropR p Z).x ∨ (cropR p Z).x + (cropR p Z).w ≤ (cropR q Z).x := by
  obtain ⟨a1, a2, a3, a4, a5⟩ := in_page (crop_in hZ hp)
  obtain ⟨b1, b2, b3, b4, b5⟩ := in_page (crop_in hZ hq)
  by_cases hc : (cropR q Z).x + (cropR q Z).w ≤ (cropR p Z).x ∨ (cropR p Z).x + (cropR p Z).w ≤ (cropR q Z).x
  · exact hc
  · exfalso
    obtain ⟨m, hm⟩ : ∃ m : Nat, (m : Int) = max (cropR p Z).x (cropR q Z).x := ⟨(max (cropR p Z).x (cropR q Z).x).toNat, by omega⟩
    exact crop_apart h hp hq m y ⟨crop_held hZ hp m y (by omega) (by omega) h1 h2, crop_held hZ hq m y (by omega) (by omega) h3 h4⟩
theorem part_same {Z p : Rc} {a b : Rows'} {wd : Nat} {q : PartM} (hZ : PageR Z wd a.length) (ha : AllW a wd) (h : SameR (cropR p Z) a b) (hp : RcI p) (hq : RcI q.r) (hpq : cropR p q.r = rc0) : SameR (cropR p Z) (partR Z a q) (partR Z b q) := by
  have hin := crop_in hZ hq
  have hz0 := (in_page (crop_in hZ hp)).2.1
  have hbs := crop_beside hZ hp hq hpq
  obtain ⟨_, hw1, hw2, hw3⟩ := hZ
  have hw4 : (cropR q.r Z).w ≤ 400 := by
    rcases hin with h | h
    · rw [h]; decide
    · omega
  unfold partR fillsR
  split
  · exact same_draw h ha hz0 hin (fun y h1 => lineL_length ⟨h1, hw4⟩) (fun y => .inr ⟨line_whole _ _ _, fun c1 c2 c3 c4 _ => hbs y c1 c2 c3 c4⟩)
  · exact same_draw h ha hz0 hin (fun y h1 => List.length_replicate) (fun y => .inl (rep_narrow rfl))
theorem parts_same {Z p : Rc} {wd : Nat} (hp : RcI p) (l : List PartM) : ∀ {a b : Rows'}, PageR Z wd a.length → AllW a wd → SameR (cropR p Z) a b → (∀ q ∈ l, RcI q.r ∧ cropR p q.r = rc0) → SameR (cropR p Z) (l.foldl (partR Z) a) (l.foldl (partR Z) b) := by
  induction l with
  | nil => intro a b _ _ h _; exact h
  | cons q l ih =>
    intro a b hZ hA h hq
    obtain ⟨h1, h2⟩ := partR_shape hZ hA (hq q (by simp)).1
    rw [List.foldl_cons, List.foldl_cons]
    exact ih (by rw [h1]; exact hZ) h2 (part_same hZ hA h hp (hq q (by simp)).1 (hq q (by simp)).2) (fun r hr => hq r (by simp [hr]))
theorem bords_same {Z p : Rc} {wd : Nat} (hp : RcI p) (l : List Rc) : ∀ {a b : Rows'}, PageR Z wd a.length → AllW a wd → SameR (cropR p Z) a b → (∀ q ∈ l, RcI q) → SameR (cropR p Z) (l.foldl (borderR Z) a) (l.foldl (borderR Z) b) := by
  induction l with
  | nil => intro a b _ _ h _; exact h
  | cons q l ih =>
    intro a b hZ hA h hq
    have hin := crop_in hZ (hq q (by simp))
    obtain ⟨h1, h2⟩ : (borderR Z a q).length = a.length ∧ AllW (borderR Z a q) wd := fillsR_shape _ hZ hA hin
    rw [List.foldl_cons, List.foldl_cons]
    exact ih (by rw [h1]; exact hZ) h2 (by unfold borderR fillsR; exact same_draw h hA (in_page (crop_in hZ hp)).2.1 hin (fun y h1 => List.length_replicate) (fun y => .inl (rep_narrow rfl))) (fun r hr => hq r (by simp [hr]))
theorem confined_law {v : ViewV} {A C : List PartM} {p p' : PartM} {bs : List Rc} (hr : p'.r = p.r) (hsh : p'.s = p.s) (hok : OkV v) (hA : ∀ q ∈ A, RcI q.r) (hp : RcI p.r) (hC : ∀ q ∈ C, RcI q.r ∧ cropR p.r q.r = rc0) (hb : ∀ b ∈ bs, RcI b) {i : Nat} (hi : i < (cellsC v (A ++ p :: C) bs).length)
    (h : p.s = false ∨ inR p.r ((i % v.w.toNat : Nat) : Int) ((i / v.w.toNat : Nat) : Int) = false) : (cellsC v (A ++ p :: C) bs).getD i cell0 = (cellsC v (A ++ p' :: C) bs).getD i cell0 := by
  have hp1 : ∀ q ∈ A ++ p :: C, RcI q.r := by
    intro q hq
    rcases List.mem_append.1 hq with hq | hq
    · exact hA q hq
    · rcases List.mem_cons.1 hq with rfl | hq
      · exact hp
      · exact (hC q hq).1
  have hp2 : ∀ q ∈ A ++ p' :: C, RcI q.r := by
    intro q hq
    rcases List.mem_append.1 hq with hq | hq
    · exact hA q hq
    · rcases List.mem_cons.1 hq with rfl | hq
      · rw [hr]; exact hp
      · exact (hC q hq).1
  have hl := cells_len hok hp1 hb
  have hl2 := cells_len hok hp2 hb
  rw [cells_get hok hp1 hb hi, cells_get hok hp2 hb (by rw [hl2, ← hl]; exact hi)]
  split
  · rename_i hy
    have hrl : (List.replicate (pgZ v).h.toNat (List.replicate (pgZ v).w.toNat (blankC attr0))).length = (v.h - 1).toNat := List.length_replicate
    have hA0 := (blank_good (pgZ v).h.toNat (pgZ v).w.toNat).w
    have hs1 := fold_shape A (pgZ_page hok hrl) hA0 hA
    have h3 := pageR_good hok hp1 hb
    unfold pageR at h3 ⊢
    rw [List.foldl_append, List.foldl_cons] at h3 ⊢
    rw [List.foldl_append, List.foldl_cons]
    generalize hR : A.foldl (partR (pgZ v)) (List.replicate (pgZ v).h.toNat (List.replicate (pgZ v).w.toNat (blankC attr0))) = rows at *
    have hZr : PageR (pgZ v) v.w.toNat rows.length := pgZ_page hok (hs1.1.trans hrl)
    by_cases hps : p.s = true
    · have hin := crop_in hZr hp
      have hw4 : (cropR p.r (pgZ v)).w ≤ 400 := by
        unfold OkV at hok
        rcases hin with q | q
        · rw [q]; decide
        · omega
      have hsame : SameR (cropR p.r (pgZ v)) (partR (pgZ v) rows p) (partR (pgZ v) rows p') := by
        unfold partR
        rw [hsh, hps, if_pos rfl, if_pos rfl, hr]
        exact same_self hs1.2 hin (fun y h1 => ⟨lineL_length ⟨h1, hw4⟩, lineL_length ⟨h1, hw4⟩⟩) (fun y => ⟨line_whole _ _ _, line_whole _ _ _⟩)
      have hsp := partR_shape hZr hs1.2 hp
      have hZp : PageR (pgZ v) v.w.toNat (partR (pgZ v) rows p).length := by rw [hsp.1]; exact hZr
      have h4 := parts_same hp C hZp hsp.2 hsame hC
      have hsc := fold_shape C hZp hsp.2 (fun q hq => (hC q hq).1)
      have h5 := bords_same hp bs (by rw [hsc.1]; exact hZp) hsc.2 h4 hb
      have h6 := h5.2 (i / v.w.toNat) (by rw [h3.1]; exact hy)
      have hwl : i % v.w.toNat < v.w.toNat := Nat.mod_lt _ (by unfold OkV at hok; omega)
      have hz0 := (in_page hin).2.1
      by_cases hyr : (cropR p.r (pgZ v)).y ≤ ((i / v.w.toNat : Nat) : Int) ∧ ((i / v.w.toNat : Nat) : Int) < (cropR p.r (pgZ v)).y + (cropR p.r (pgZ v)).h
      · rw [if_pos hyr] at h6
        refine h6.2.2.1 _ (by rw [h3.2.w.get (by rw [h3.1]; exact hy)]; exact hwl) (fun hx => ?_)
        have hc := crop_held hZr hp (i % v.w.toNat) (i / v.w.toNat) (by omega) (by omega) hyr.1 hyr.2
        rcases h with h | h
        · rw [h] at hps; cases hps
        · rw [hc] at h; cases h
      · rw [if_neg hyr] at h6
        rw [h6]
    · have e : partR (pgZ v) rows p' = partR (pgZ v) rows p := by
        unfold partR
        rw [hsh, if_neg hps, if_neg hps, hr]
      rw [e]
  · rfl
end Go.Proofs.YtfmldkjidfigbaaDoor
/- Compose: the law ComposeConfined: what is compared. CLNONE -/
set_option linter.unusedSimpArgs false
set_option linter.unusedVariables false
set_option maxHeartbeats 1000000
set_option maxRecDepth 100000
namespace Go.Proofs.YtfmldkjidfigbaaDoor
open Go Go.Jx

theorem conf_cmp {R : Ro} {M : List Hp} {h : Heap} {e : List AV} {bv mid nid zid k kk : Nat} {u1 u2 : SV} {L1 L2 : List Cell} {P : List PartV} {v : ViewV} {z : Rc} {cu cu2 : Curs} (he : EnvIs 175 [(3, .sc (.ptr bv 0)), (7, .sc (.ptr mid 0)), (9, .sc (.int .i64 (kk : Int))), (11, .sc (.ptr zid 0)), (13, .sc (.ptr nid 0)), (15, .sc (.int .i64 (k : Int)))] e)
    (hs : Sep R (maO nid v.w v.h u2 cu2 :: [(zid, .cells 37 .own (rcE.enc z))] :: maO mid v.w v.h u1 cu :: bvO bv v :: M) h) (l1 : SlR cellE R u1 L1) (l2 : SlR cellE R u2 L2) (hk1 : k < L1.length) (hk2 : k < L2.length) (hL : L1.length ≤ 160000) (hw : 1 ≤ v.w ∧ v.w ≤ 400)
    (hps : SlR partE R v.ps P) (hkk : kk < P.length) (hz : RcI z)
    (hc0 : (P.getD kk part0).s = false ∨ inR z ((k : Int) % v.w) ((k : Int) / v.w) = false → L1.getD k cell0 = L2.getD k cell0) :
    W DD (.code (.draw m5_r25) e h) (fun x e' h' => x = .normal ∧ ∃ sl, (sl = [(174, .sc (.bool false))] ∧ Sep R (maO nid v.w v.h u2 cu2 :: [(zid, .cells 37 .own (rcE.enc z))] :: maO mid v.w v.h u1 cu :: bvO bv v :: M) h') ∧ EnvB e [142, 143, 144, 145, 146, 147, 148, 149, 150, 151, 152, 153, 154, 155, 156, 157, 158, 159, 160, 161, 162, 163, 164, 165, 166, 167, 168, 169, 170, 171, 172, 173, 174] [0, 1, 2, 3, 4, 5, 6, 7, 8, 9, 10, 11, 12, 13, 14, 15, 16, 17, 18, 19, 20, 21, 22, 23, 24, 25, 26, 27, 28, 29, 30, 31, 32, 33, 34, 35, 36, 37, 38, 39, 40, 41, 42, 43, 44, 45, 46, 47, 48, 49, 50, 51, 52, 53, 54, 55, 56, 57, 58, 59, 60, 61, 62, 63, 64, 65, 66, 67, 68, 69, 70, 71, 72, 73, 74, 75, 76, 77, 78, 79, 80, 81, 82, 83, 84, 85, 86, 87, 88, 89, 90, 91, 92, 93, 94, 95, 96, 97, 98, 99, 100, 101, 102, 103, 104, 105, 106, 107, 108, 109, 110, 111, 112, 113, 114, 115, 116, 117, 118, 119, 120, 121, 122, 123, 124, 125, 126, 127, 128, 129, 130, 131, 132, 133, 134, 135, 136, 137, 138, 139, 140, 141, 142, 143, 144, 145, 146, 147, 148, 149, 150, 151, 152, 153, 154, 155, 156, 157, 158, 159, 160, 161, 162, 163, 164, 165, 166, 167, 168, 169, 170, 171, 172, 173, 174] sl e') := by
  obtain ⟨us, rfl⟩ := he.list
  rw [show mkE us [(3, .sc (.ptr bv 0)), (7, .sc (.ptr mid 0)), (9, .sc (.int .i64 (kk : Int))), (11, .sc (.ptr zid 0)), (13, .sc (.ptr nid 0)), (15, .sc (.int .i64 (k : Int)))] 0 175 = [us 0, us 1, us 2, .sc (.ptr bv 0), us 4, us 5, us 6, .sc (.ptr mid 0), us 8, .sc (.int .i64 (kk : Int)), us 10, .sc (.ptr zid 0), us 12, .sc (.ptr nid 0), us 14, .sc (.int .i64 (k : Int)), us 16, us 17, us 18, us 19, us 20, us 21, us 22, us 23, us 24, us 25, us 26, us 27, us 28, us 29, us 30, us 31, us 32, us 33, us 34, us 35, us 36, us 37, us 38, us 39, us 40, us 41, us 42, us 43, us 44, us 45, us 46, us 47, us 48, us 49, us 50, us 51, us 52, us 53, us 54, us 55, us 56, us 57, us 58, us 59, us 60, us 61, us 62, us 63, us 64, us 65, us 66, us 67, us 68, us 69, us 70, us 71, us 72, us 73, us 74, us 75, us 76, us 77, us 78, us 79, us 80, us 81, us 82, us 83, us 84, us 85, us 86, us 87, us 88, us 89, us 90, us 91, us 92, us 93, us 94, us 95, us 96, us 97, us 98, us 99, us 100, us 101, us 102, us 103, us 104, us 105, us 106, us 107, us 108, us 109, us 110, us 111, us 112, us 113, us 114, us 115, us 116, us 117, us 118, us 119, us 120, us 121, us 122, us 123, us 124, us 125, us 126, us 127, us 128, us 129, us 130, us 131, us 132, us 133, us 134, us 135, us 136, us 137, us 138, us 139, us 140, us 141, us 142, us 143, us 144, us 145, us 146, us 147, us 148, us 149, us 150, us 151, us 152, us 153, us 154, us 155, us 156, us 157, us 158, us 159, us 160, us 161, us 162, us 163, us 164, us 165, us 166, us 167, us 168, us 169, us 170, us 171, us 172, us 173, us 174] from rfl]
  have n1 := l1.ln
  have n2 := l2.ln
  have n3 := hps.ln
  repeat' (first
    | (refine K_ops ?_; first
      | refine W_fastB rfl ?_
      | refine W_nil ?_
      | (refine K_guard ?_; first
        | refine W_guard_on rfl ?_
        | refine W_guard_off rfl rfl (W_norm rfl ?_)
        | refine W_guard_u rfl (W_norm rfl ?_)
        | (refine W_guardT rfl (fun hc => ?_) (fun hc => ?_) <;> (try rw [hc]) <;> (try simp only [decide_eq_true_eq, decide_eq_false_iff_not, beq_iff_eq, beq_eq_false_iff_ne, bne_iff_ne, bne_eq_false_iff_eq, Bool.not_eq_true', Bool.not_eq_false', Int.not_lt, Int.not_le, ne_eq, reduceCtorEq, not_true_eq_false, not_false_eq_true, Decidable.not_not] at hc) <;> (try (exfalso; omega)) <;> (try refine W_norm rfl ?_))
        | (refine W_guardF rfl (fun hc => ?_) (fun hc => ?_) <;> (try rw [hc]) <;> (try simp only [decide_eq_true_eq, decide_eq_false_iff_not, beq_iff_eq, beq_eq_false_iff_ne, bne_iff_ne, bne_eq_false_iff_eq, Bool.not_eq_true', Bool.not_eq_false', Int.not_lt, Int.not_le, ne_eq, reduceCtorEq, not_true_eq_false, not_false_eq_true, Decidable.not_not] at hc) <;> (try (exfalso; omega)) <;> (try refine W_norm rfl ?_))
      )
      | (refine K_call ?_; first
        | (refine W_callsN 15 rfl (w15 hz) rfl ?_; rintro _ h3 ⟨rfl, t⟩; have hs := hs.call t; try simp only [cell_back, attr_back, List.set_cons_zero, List.set_cons_succ, List.eraseIdx_cons_succ, List.eraseIdx_zero, List.tail_cons, List.nil_append, List.cons_append] at hs; refine W_norm rfl ?_)
      )
      | (refine K_bin ?_; first
        | (refine W_div rfl rfl (by omega) ?_; refine W_norm rfl ?_)
        | (refine W_mod rfl rfl (by omega) ?_; refine W_norm rfl ?_)
        | (refine W_neE cellE rfl rfl rfl rfl cellE_fits ?_; refine W_norm rfl ?_)
      )
      | (refine K_pick ?_; first
        | refine W_pick_t rfl rfl (W_norm rfl ?_)
        | refine W_pick_f rfl rfl (W_norm rfl ?_)
      )
      | (refine K_index ?_; first
        | (refine W_indexR rfl rfl (by assumption) rfl ⟨(by first | omega | (simp only [List.length_set, List.length_append, List.length_take, List.length_drop, List.length_replicate, List.length_cons, List.length_nil, decs_length, List.length_map]; omega)), (by first | omega | (simp only [List.length_set, List.length_append, List.length_take, List.length_drop, List.length_replicate, List.length_cons, List.length_nil, decs_length, List.length_map]; omega))⟩ ?_; intro _ _ _; refine W_norm rfl ?_)
      )
      | (refine K_load ?_; first
        | (refine W_loadRF hs rfl (by assumption) rfl ?_; refine W_norm rfl ?_)
        | (refine W_loadRA hs rfl (by assumption) rfl ?_; refine W_norm rfl ?_)
        | (refine W_loadC hs 0 rfl rfl rfl ?_; refine W_norm rfl ?_)
        | (refine W_loadCA hs 1 rfl rfl rfl ?_; refine W_norm rfl ?_)
        | (refine W_loadC hs 2 rfl rfl rfl ?_; refine W_norm rfl ?_)
        | (refine W_loadC hs 3 rfl rfl rfl ?_; refine W_norm rfl ?_)
      )
    )
    | (refine K_code ?_; first
      | refine W_draws ?_
    )
    | refine W_dstep rfl ?_
    | refine ⟨rfl, fun rc hrec => ?_⟩
    | (refine W_dnilS (by simp only [List.reverse_cons, List.reverse_nil, List.nil_append, List.cons_append]; rfl) (by repeat' first | exact CL_nil _ _ | refine CL_skip rfl ?_ | refine CL_none (by assumption) rfl ?_ | refine CL_load (by assumption) rfl (by first | exact trivial | (repeat' first | exact trivial | refine ⟨⟨_, rfl, (by refine (congrArg (fun x => Heap.get x _) (RecIs.hh (by assumption))).trans ?_; first | rfl | exact PtR.same_get (by assumption) (by assumption) (by assumption) | exact Sep.same_get (by assumption) (by assumption) 0 0 rfl rfl | exact Sep.same_get (by assumption) (by assumption) 0 1 rfl rfl | exact Sep.same_get (by assumption) (by assumption) 0 2 rfl rfl | exact Sep.same_get (by assumption) (by assumption) 0 3 rfl rfl | exact Sep.same_get (by assumption) (by assumption) 1 0 rfl rfl | exact Sep.same_get (by assumption) (by assumption) 1 1 rfl rfl | exact Sep.same_get (by assumption) (by assumption) 1 2 rfl rfl | exact Sep.same_get (by assumption) (by assumption) 1 3 rfl rfl | exact Sep.same_get (by assumption) (by assumption) 2 0 rfl rfl | exact Sep.same_get (by assumption) (by assumption) 2 1 rfl rfl | exact Sep.same_get (by assumption) (by assumption) 2 2 rfl rfl | exact Sep.same_get (by assumption) (by assumption) 2 3 rfl rfl | exact Sep.same_get (by assumption) (by assumption) 3 0 rfl rfl | exact Sep.same_get (by assumption) (by assumption) 3 1 rfl rfl | exact Sep.same_get (by assumption) (by assumption) 3 2 rfl rfl | exact Sep.same_get (by assumption) (by assumption) 3 3 rfl rfl)⟩, ?_⟩)) (by first | exact trivial | (repeat' first | exact trivial | refine ⟨⟨_, rfl, (by refine (congrArg (fun x => Heap.get x _) (RecIs.hh' (by assumption))).trans ?_; first | rfl | exact PtR.same_get (by assumption) (by assumption) (by assumption) | exact Sep.same_get (by assumption) (by assumption) 0 0 rfl rfl | exact Sep.same_get (by assumption) (by assumption) 0 1 rfl rfl | exact Sep.same_get (by assumption) (by assumption) 0 2 rfl rfl | exact Sep.same_get (by assumption) (by assumption) 0 3 rfl rfl | exact Sep.same_get (by assumption) (by assumption) 1 0 rfl rfl | exact Sep.same_get (by assumption) (by assumption) 1 1 rfl rfl | exact Sep.same_get (by assumption) (by assumption) 1 2 rfl rfl | exact Sep.same_get (by assumption) (by assumption) 1 3 rfl rfl | exact Sep.same_get (by assumption) (by assumption) 2 0 rfl rfl | exact Sep.same_get (by assumption) (by assumption) 2 1 rfl rfl | exact Sep.same_get (by assumption) (by assumption) 2 2 rfl rfl | exact Sep.same_get (by assumption) (by assumption) 2 3 rfl rfl | exact Sep.same_get (by assumption) (by assumption) 3 0 rfl rfl | exact Sep.same_get (by assumption) (by assumption) 3 1 rfl rfl | exact Sep.same_get (by assumption) (by assumption) 3 2 rfl rfl | exact Sep.same_get (by assumption) (by assumption) 3 3 rfl rfl)⟩, ?_⟩)) ?_) ?_))
  all_goals first
    | exact ⟨rfl, _, ⟨rfl, hs⟩, EnvB.of rfl⟩
    | exact absurd (hc0 (.inl (by assumption))) (by assumption)
    | (refine ⟨rfl, _, ⟨rfl, hs⟩, atB ?_ (EnvB.of rfl)⟩
       cases hi : inR z ((k : Int) % v.w) ((k : Int) / v.w) with
       | true => rfl
       | false => exact absurd (hc0 (.inr hi)) (by assumption))
end Go.Proofs.YtfmldkjidfigbaaDoor
