import Derived.Test.YtfmldkjidfigbaaDoorJxM25C
import Derived.Test.YtfmldkjidfigbaaDoorJxM25B
/- Compose: rows of a page are laid over. -/
set_option linter.unusedSimpArgs false
set_option linter.unusedVariables false
set_option maxHeartbeats 1000000
set_option maxRecDepth 100000
namespace Go.Proofs.YtfmldkjidfigbaaDoor
open Go Go.Jx

abbrev Hc := Hd Cell
def hd0 : Hc := ⟨.nils, [], []⟩
theorem hp_set {H : List Hc} {y : Nat} (hy : y < H.length) (r : Hc) : ∀ [BEq (Nat × AO)] [LawfulBEq (Nat × AO)] (a : Nat × AO), (hpOf (H.set y r)).count a + (H.getD y hd0).c.count a = (hpOf H).count a + r.c.count a := by
  intro _ _ a
  have e : H = H.take y ++ H.getD y hd0 :: H.drop (y + 1) := by
    rw [List.getD_eq_getElem?_getD, List.getElem?_eq_getElem hy, Option.getD_some, ← List.drop_eq_getElem_cons hy, List.take_append_drop]
  have e2 : H.set y r = H.take y ++ r :: H.drop (y + 1) := by rw [List.set_eq_take_append_cons_drop, if_pos hy]
  rw [e2]
  conv => rhs; rw [e]
  simp only [hpOf_append, hpOf_cons, List.count_append]
  omega
/-- A page: its rectangle and its rows. -/
abbrev pgO (pid : Nat) (Z : Rc) (rv : SV) : Hp := [(pid, .cells 57 .own (rcE.enc Z ++ [rv]))]
theorem map_getD {α β : Type} (f : α → β) (l : List α) (i : Nat) (d : α) : (l.map f).getD i (f d) = f (l.getD i d) := by
  simp only [List.getD_eq_getElem?_getD, List.getElem?_map]
  cases l[i]? <;> rfl
theorem w36 {R : Ro} {M : List Hp} {h : Heap} {pid : Nat} {Z : Rc} {rv u : SV} {H : List Hc} {c : Hp} {x y : Int} {m : List Cell} (hs : Sep R (pgO pid Z rv :: c :: hpOf H :: M) h) (hn : NsO cellE 34 35 rv H c) (hu : SlR cellE R u m)
    (hy : 0 ≤ y ∧ y < H.length) (hH : H.length ≤ 400) (hx : 0 ≤ x ∧ x + m.length ≤ ((H.map Hd.L).getD y.toNat []).length) (hm : 1 ≤ m.length) (hl : ((H.map Hd.L).getD y.toNat []).length ≤ 400) :
    Wc DD 36 [.sc (.ptr pid 0), i64 x, i64 y, .sc u] h fun v h' => v = .tup [] ∧ ∃ H' c', NsO cellE 34 35 rv H' c' ∧ H'.map Hd.L = (H.map Hd.L).set y.toNat (putsL ((H.map Hd.L).getD y.toNat []) x m) ∧ Sep R (pgO pid Z rv :: c' :: hpOf H' :: M) h' := by
  have hlm := hu.ln
  have hrow : SlR cellE (Now h) ((H.map Hd.v).getD y.toNat .nils) ((H.map Hd.L).getD y.toNat []) := by
    have := (hn.now hs (by simp) (by simp)).row (i := y.toNat) (by rw [pairs_length]; omega)
    rwa [pairs_fst, pairs_snd] at this
  have hl2 : (H.map Hd.v).length = H.length := List.length_map _
  obtain ⟨oid, okd, hrv, hc0, hok⟩ := hn.1.pos (by rw [hl2]; omega)
  subst hc0
  generalize hrw : (H.map Hd.L).getD y.toNat [] = row at *
  have hel : (eraseL row x m.length attr0).length = row.length := eraseL_length _ _ _ _
  refine W_enter d36 ?_
  show W _ (.code m36_code [.sc (.ptr pid 0), i64 x, i64 y, .sc u, undefA, undefA, undefA, undefA, undefA, undefA, undefA, undefA, undefA, undefA, undefA, undefA, undefA, undefA, undefA, undefA, undefA, undefA, undefA, undefA, undefA, undefA, undefA, undefA, undefA, undefA, undefA, undefA, undefA, undefA, undefA, undefA, undefA] _) _
  unfold m36_code
  subst hrv
  rw [hl2] at *
  repeat' (first
    | (refine K_ops ?_; first
      | refine W_fastB rfl ?_
      | refine W_nil ?_
      | (refine K_call ?_; first
        | (refine W_callsN 42 rfl (w42 attr0 hrow (by omega) (by omega)) rfl ?_; rintro _ h3 ⟨u2, c2, rfl, ha, t⟩; have hs := hs.call t; try simp only [cell_back, attr_back, List.set_cons_zero, List.set_cons_succ, List.eraseIdx_cons_succ, List.eraseIdx_zero, List.tail_cons, List.nil_append, List.cons_append] at hs; refine W_norm rfl ?_)
      )
      | (refine W_lenL rfl (by first | assumption | exact SlR.ln (by assumption) | exact AccS.ln (by assumption) | exact OwnS.ln (by assumption) | exact VwO.ln (by assumption) | exact OwnP.ln (by assumption) | exact Len.sl) ?_; refine W_norm rfl ?_)
      | (refine K_index ?_; first
        | (refine W_indexO rfl rfl ⟨(by first | omega | (simp only [List.length_set, List.length_append, List.length_take, List.length_drop, List.length_replicate, List.length_cons, List.length_nil, decs_length, List.length_map]; omega)), (by first | omega | (simp only [List.length_set, List.length_append, List.length_take, List.length_drop, List.length_replicate, List.length_cons, List.length_nil, decs_length, List.length_map]; omega))⟩ ?_; refine W_norm rfl ?_)
      )
      | (refine K_load ?_; first
        | (refine W_loadC hs 0 rfl rfl rfl ?_; refine W_norm rfl ?_)
        | (refine W_loadO hs 1 rfl rfl rfl (by first | omega | (simp only [List.length_set, List.length_append, List.length_take, List.length_drop, List.length_replicate, List.length_cons, List.length_nil, decs_length, List.length_map]; omega)) rfl ?_; refine W_norm rfl ?_)
        | (refine W_loadC hs 1 rfl rfl rfl ?_; refine W_norm rfl ?_)
        | (refine W_loadO hs 2 rfl rfl rfl (by first | omega | (simp only [List.length_set, List.length_append, List.length_take, List.length_drop, List.length_replicate, List.length_cons, List.length_nil, decs_length, List.length_map]; omega)) rfl ?_; refine W_norm rfl ?_)
      )
      | (refine K_store ?_; first
        | (refine W_storeO hs 2 rfl rfl rfl rfl rfl (by first | omega | (simp only [List.length_set, List.length_append, List.length_take, List.length_drop, List.length_replicate, List.length_cons, List.length_nil, decs_length, List.length_map]; omega)) (by first | decide | assumption) rfl ?_; intro _ hs; try simp only [cell_back, attr_back, List.set_cons_zero, List.set_cons_succ, List.eraseIdx_cons_succ, List.eraseIdx_zero, List.tail_cons, List.nil_append, List.cons_append] at hs; refine W_norm rfl ?_)
      )
      | (refine W_buildN rfl ?_; refine W_norm rfl ?_)
    )
    | (refine K_code ?_; first
      | refine W_seq ?_
      | refine W_ops ?_
      | refine W_draws ?_
    )
    | refine W_dstep rfl ?_
    | refine ⟨rfl, fun rc hrec => ?_⟩
    | (refine W_dnilS (by simp only [List.reverse_cons, List.reverse_nil, List.nil_append, List.cons_append]; rfl) (by repeat' first | exact CL_nil _ _ | refine CL_skip rfl ?_ | refine CL_load (by assumption) rfl (by first | exact trivial | (repeat' first | exact trivial | refine ⟨⟨_, rfl, (by refine (congrArg (fun x => Heap.get x _) (RecIs.hh (by assumption))).trans ?_; first | rfl | exact PtR.same_get (by assumption) (by assumption) (by assumption) | exact Sep.same_get (by assumption) (by assumption) 0 0 rfl rfl | exact Sep.same_get (by assumption) (by assumption) 0 1 rfl rfl | exact Sep.same_get (by assumption) (by assumption) 0 2 rfl rfl | exact Sep.same_get (by assumption) (by assumption) 1 0 rfl rfl | exact Sep.same_get (by assumption) (by assumption) 1 1 rfl rfl | exact Sep.same_get (by assumption) (by assumption) 1 2 rfl rfl | exact Sep.same_get (by assumption) (by assumption) 2 0 rfl rfl | exact Sep.same_get (by assumption) (by assumption) 2 1 rfl rfl | exact Sep.same_get (by assumption) (by assumption) 2 2 rfl rfl)⟩, ?_⟩)) (by first | exact trivial | (repeat' first | exact trivial | refine ⟨⟨_, rfl, (by refine (congrArg (fun x => Heap.get x _) (RecIs.hh' (by assumption))).trans ?_; first | rfl | exact PtR.same_get (by assumption) (by assumption) (by assumption) | exact Sep.same_get (by assumption) (by assumption) 0 0 rfl rfl | exact Sep.same_get (by assumption) (by assumption) 0 1 rfl rfl | exact Sep.same_get (by assumption) (by assumption) 0 2 rfl rfl | exact Sep.same_get (by assumption) (by assumption) 1 0 rfl rfl | exact Sep.same_get (by assumption) (by assumption) 1 1 rfl rfl | exact Sep.same_get (by assumption) (by assumption) 1 2 rfl rfl | exact Sep.same_get (by assumption) (by assumption) 2 0 rfl rfl | exact Sep.same_get (by assumption) (by assumption) 2 1 rfl rfl | exact Sep.same_get (by assumption) (by assumption) 2 2 rfl rfl)⟩, ?_⟩)) ?_) ?_)
    | refine seqK_n ?_)
  have hsel : ((H.map Hd.v).set y.toNat (svEl.dec [u2])).getD y.toNat svEl.dflt = u2 := by
    rw [List.getD_eq_getElem?_getD, List.getElem?_set_self (by rw [List.length_map]; omega)]; rfl
  rw [hsel]
  obtain ⟨id2, kd2, rfl, rfl, hk2⟩ := ha.pos (by rw [hel]; omega)
  rw [hel] at *
  have hel := eraseL_length row x m.length attr0
  repeat' (first
    | (refine K_ops ?_; first
      | refine W_fastB rfl ?_
      | refine W_nil ?_
      | (refine K_slice ?_; first
        | (refine W_sliceO0From rfl rfl (by first | omega | (simp only [List.length_set, List.length_append, List.length_take, List.length_drop, List.length_replicate, List.length_cons, List.length_nil, decs_length, List.length_map]; omega)) ⟨(by first | omega | (simp only [List.length_set, List.length_append, List.length_take, List.length_drop, List.length_replicate, List.length_cons, List.length_nil, decs_length, List.length_map]; omega)), (by first | omega | (simp only [List.length_set, List.length_append, List.length_take, List.length_drop, List.length_replicate, List.length_cons, List.length_nil, decs_length, List.length_map]; omega))⟩ ?_; intro _ _; refine W_norm rfl ?_)
      )
      | (refine K_copy ?_; first
        | (refine W_copyV hs 0 rfl rfl (by first | assumption | exact VwO.whole) rfl (by first | decide | assumption) rfl (by first | omega | (simp only [List.length_set, List.length_append, List.length_take, List.length_drop, List.length_replicate, List.length_cons, List.length_nil, decs_length, List.length_map]; omega)) (by first | exact VwO.sl (by assumption) (hs.at1 0 rfl) (by first | omega | (simp only [List.length_set, List.length_append, List.length_take, List.length_drop, List.length_replicate, List.length_cons, List.length_nil, decs_length, List.length_map]; omega)) | exact VwO.sl (by assumption) (hs.at1 1 rfl) (by first | omega | (simp only [List.length_set, List.length_append, List.length_take, List.length_drop, List.length_replicate, List.length_cons, List.length_nil, decs_length, List.length_map]; omega)) | exact VwO.sl (by assumption) (hs.at1 2 rfl) (by first | omega | (simp only [List.length_set, List.length_append, List.length_take, List.length_drop, List.length_replicate, List.length_cons, List.length_nil, decs_length, List.length_map]; omega)) | assumption | exact SlR.now hs (by assumption) | exact AccS.now (by assumption) hs (by simp) | exact OwnS.now (by assumption) hs (by simp)) ?_; clear hs; intro _ hs; try simp only [cell_back, attr_back, List.set_cons_zero, List.set_cons_succ, List.eraseIdx_cons_succ, List.eraseIdx_zero, List.tail_cons, List.nil_append, List.cons_append] at hs; refine W_norm rfl ?_)
      )
    )
    | (refine fnK_n rfl ?_; try dsimp only [gd_z, gd_s]))
  obtain ⟨xn, rfl⟩ : ∃ k : Nat, x = (k : Int) := ⟨x.toNat, by omega⟩
  have hpl : (putsL row xn m).length = row.length := putsL_length (by omega)
  have he : List.take (xn : Int).toNat (eraseL row xn m.length attr0) ++ List.take (row.length - (xn : Int).toNat) m ++ List.drop ((xn : Int).toNat + min m.length (row.length - (xn : Int).toNat)) (eraseL row xn m.length attr0) = putsL row xn m := by
    unfold putsL
    rw [Int.toNat_natCast, List.take_of_length_le (show m.length ≤ row.length - xn by omega), Nat.min_eq_left (by omega)]
  rw [he] at hs
  have hyl : y.toNat < H.length := by omega
  refine ⟨_, rfl, rfl, H.set y.toNat ⟨.slice id2 0 row.length row.length, putsL row xn m, [(id2, .cells 34 kd2 ((putsL row xn m).flatMap cellE.enc))]⟩, [(oid, .cells 35 okd (((H.map Hd.v).set y.toNat (.slice id2 0 row.length row.length)).flatMap svEl.enc))], ⟨?_, ?_⟩, ?_, ?_⟩
  · rw [List.map_set]
    exact AccS.again hok (by simp)
  · intro r hr
    rcases List.mem_or_eq_of_mem_set hr with hr | rfl
    · exact hn.2 r hr
    · exact (AccS.again hk2 hpl).1
  · rw [List.map_set]
  · refine hs.some ((H.getD y.toNat hd0).c) fun a => ?_
    have hp := hp_set hyl ⟨.slice id2 0 row.length row.length, putsL row xn m, [(id2, .cells 34 kd2 ((putsL row xn m).flatMap cellE.enc))]⟩ a
    simp only [List.flatten_cons, List.flatten_nil, List.count_append, List.count_nil] at hp ⊢
    have e : svEl.dec [SV.slice id2 0 row.length row.length] = SV.slice id2 0 row.length row.length := rfl
    rw [e]
    omega
end Go.Proofs.YtfmldkjidfigbaaDoor
/- Compose: a rectangle is filled. -/
set_option linter.unusedSimpArgs false
set_option linter.unusedVariables false
set_option maxHeartbeats 1000000
set_option maxRecDepth 100000
namespace Go.Proofs.YtfmldkjidfigbaaDoor
open Go Go.Jx

theorem w35 {R : Ro} {M : List Hp} {h : Heap} {pid wd : Nat} {Z z : Rc} {rv : SV} {H : List Hc} {c : Hp} {C : Cell} (hs : Sep R (pgO pid Z rv :: c :: hpOf H :: M) h) (hn : NsO cellE 34 35 rv H c)
    (hz : InZ z wd H.length) (hA : AllW (H.map Hd.L) wd) (hW : wd ≤ 400) (hH : H.length ≤ 400) :
    Wc DD 35 [.sc (.ptr pid 0), .agg (rcE.enc z), .agg (cellE.enc C)] h fun v h' => v = .tup [] ∧ ∃ H' c', NsO cellE 34 35 rv H' c' ∧ H'.map Hd.L = fillsR (H.map Hd.L) z C ∧ Sep R (pgO pid Z rv :: c' :: hpOf H' :: M) h' := by
  have hzw : 0 ≤ z.w ∧ z.w ≤ 400 ∧ 0 ≤ z.h ∧ z.h ≤ 400 ∧ 0 ≤ z.y ∧ z.y + z.h ≤ H.length ∧ 0 ≤ z.x ∧ z.x + z.w ≤ wd ∧ (1 ≤ z.h → 1 ≤ z.w) := by
    rcases hz with rfl | hz
    · simp [rc0]
    · omega
  refine W_enter d35 ?_
  show W _ (.code m35_code [.sc (.ptr pid 0), .agg (rcE.enc z), .agg (cellE.enc C), undefA, undefA, undefA, undefA, undefA, undefA, undefA, undefA, undefA, undefA, undefA, undefA, undefA, undefA, undefA, undefA, undefA, undefA, undefA, undefA, undefA, undefA, undefA, undefA, undefA, undefA, undefA] _) _
  unfold m35_code
  repeat' (first
    | (refine K_ops ?_; first
      | refine W_fastB rfl ?_
      | refine W_nil ?_
      | (refine K_call ?_; first
        | (refine W_callsN 41 rfl (w41 (c := C) (AccS.now (by assumption) hs (by simp)) (by omega)) rfl ?_; rintro _ h3 ⟨u, d, rfl, hu, t⟩; replace hs := hs.call t; try simp only [cell_back, attr_back, List.set_cons_zero, List.set_cons_succ, List.eraseIdx_cons_succ, List.eraseIdx_zero, List.tail_cons, List.nil_append, List.cons_append] at hs; refine W_norm rfl ?_)
      )
      | (refine K_load ?_; first
        | (refine W_loadCA hs 0 rfl rfl rfl ?_; refine W_norm rfl ?_)
        | (refine W_loadC hs 2 rfl rfl rfl ?_; refine W_norm rfl ?_)
        | (refine W_loadC hs 3 rfl rfl rfl ?_; refine W_norm rfl ?_)
      )
      | (refine W_boxS hs rfl rfl ?_; clear hs; intro bx _ hs; try simp only [cell_back, attr_back, List.set_cons_zero, List.set_cons_succ, List.eraseIdx_cons_succ, List.eraseIdx_zero, List.tail_cons, List.nil_append, List.cons_append] at hs; refine W_norm rfl ?_)
      | (refine K_bslice ?_; first
        | (refine W_buildS1 cellE hs rfl rfl ?_; clear hs; intro _ _ _ _ hs; try simp only [cell_back, attr_back, List.set_cons_zero, List.set_cons_succ, List.eraseIdx_cons_succ, List.eraseIdx_zero, List.tail_cons, List.nil_append, List.cons_append] at hs; refine W_norm rfl ?_)
      )
    )
    | (refine K_code ?_; first
      | refine W_seq ?_
      | refine W_ops ?_
      | refine W_block ?_
    )
    | refine seqK_n ?_)
  rename_i bz _ _ _ _ _ _
  have hu2 : SlR cellE (R.add d) u (List.replicate z.w.toNat C) := hu.1.inR fun x hx => .inr hx
  replace hs : Sep (R.add d) (pgO pid Z rv :: c :: hpOf H :: [(bz, .cells 37 .own (rcE.enc z))] :: M) h3 := ((((hs.freeze 0 rfl).drop 0).drop 0).reord (fun a => by simp only [List.flatten_cons, List.flatten_nil, List.count_append, List.count_nil, hpOf_append, hpOf_cons, hpOf_nil, List.append_nil, List.eraseIdx_cons_succ, List.eraseIdx_zero, List.tail_cons] <;> omega))
  refine W_loopB [7, 15, 16, 17, 18, 19, 20, 21, 22, 23, 24, 25, 26, 27, 28, 29] [0, 1, 2, 3, 4, 5, 6, 7, 8, 9, 10, 11, 12, 13, 14, 15, 16, 17, 18, 19, 20, 21, 22, 23, 24, 25, 26, 27, 28, 29] (fun n' sl h' => ∃ (k : Nat) (y : Int) (G : List Hc) (g : Hp), sl = [(0, .sc (.ptr pid 0)), (4, .sc (.ptr bz 0)), (6, .sc u), (7, .sc (.int .i64 y))] ∧ n' = z.h.toNat - k ∧ k ≤ z.h.toNat ∧ y = z.y + k ∧ NsO cellE 34 35 rv G g ∧ G.map Hd.L = drawN (H.map Hd.L) z.x z.y.toNat (fun _ => List.replicate z.w.toNat C) k ∧ Sep (R.add d) (pgO pid Z rv :: g :: hpOf G :: [(bz, .cells 37 .own (rcE.enc z))] :: M) h') ?_ ?_
  · refine ⟨_, _, ⟨0, z.y, H, c, rfl, rfl, Nat.zero_le _, by omega, hn, rfl, hs⟩, EnvB.of rfl⟩
  clear hs hn
  rintro _ _ us _ h4 ⟨k, y, G, g, rfl, rfl, hk, rfl, hn, hG, hs⟩ he
  refine W_spell he rfl ?_
  clear he
  unfold m35_l3
  have hGl : G.length = H.length := by
    have := congrArg List.length hG
    rwa [drawN_length, List.length_map, List.length_map] at this
  obtain ⟨xn, hxn⟩ : ∃ j : Nat, z.x = (j : Int) := ⟨z.x.toNat, by omega⟩
  by_cases hlt : k < z.h.toNat
  · have hGA : AllW (G.map Hd.L) wd := by
      rw [hG, hxn]
      exact drawN_all hA (fun _ => by rw [List.length_replicate]; omega) (by rw [List.length_map]; omega)
    have hrl : ((G.map Hd.L).getD (z.y + (k : Int)).toNat []).length = wd := hGA.get (by rw [List.length_map]; omega)
    repeat' (first
      | (refine K_ops ?_; first
        | refine W_fastB rfl ?_
        | refine W_nil ?_
        | (refine K_call ?_; first
          | (refine W_callsN 36 rfl (w36 hs hn hu2 (by omega) (by omega) (by rw [hrl, List.length_replicate]; omega) (by rw [List.length_replicate]; omega) (by omega)) rfl ?_; rintro _ h5 ⟨rfl, G2, g2, hn2, hG2, hs⟩; refine W_norm rfl ?_)
        )
        | (refine K_bin ?_; first
          | (refine W_add rfl rfl (IntWalk.i64_in _ (by first | omega | (simp only [List.length_set, List.length_append, List.length_take, List.length_drop, List.length_replicate, List.length_cons, List.length_nil, decs_length, List.length_map]; omega))) ?_; refine W_norm rfl ?_)
        )
        | (refine K_load ?_; first
          | (refine W_loadC hs 3 rfl rfl rfl ?_; refine W_norm rfl ?_)
        )
      )
      | (refine K_code ?_; first
        | refine W_seq ?_
        | refine W_ops ?_
        | (refine W_cond rfl (fun hc => ?_) (fun hc => ?_) <;> (try rw [hc]) <;> (try simp only [decide_eq_true_eq, decide_eq_false_iff_not, beq_iff_eq, beq_eq_false_iff_ne, bne_iff_ne, bne_eq_false_iff_eq, Bool.not_eq_true', Bool.not_eq_false', Int.not_lt, Int.not_le, ne_eq, reduceCtorEq, not_true_eq_false, not_false_eq_true, Decidable.not_not] at hc) <;> (try (exfalso; omega)) <;> (try refine W_norm rfl ?_))
        | refine W_skip ?_
        | refine W_block ?_
      )
      | refine seqK_n ?_
      | refine blockK_n ?_
      | refine invK_n ?_)
    refine ⟨_, ?_, _, ⟨k + 1, _, G2, g2, rfl, rfl, ?_, ?_, hn2, ?_, hs⟩, EnvB.of rfl⟩
    · omega
    · omega
    · omega
    · rw [hG2, hG]
      show _ = (drawN (H.map Hd.L) z.x z.y.toNat (fun _ => List.replicate z.w.toNat C) k).set (z.y.toNat + k) _
      rw [show (z.y + (k : Int)).toNat = z.y.toNat + k by omega]
  · repeat' (first
      | (refine K_ops ?_; first
        | refine W_fastB rfl ?_
        | refine W_nil ?_
        | (refine K_bin ?_; first
          | (refine W_add rfl rfl (IntWalk.i64_in _ (by first | omega | (simp only [List.length_set, List.length_append, List.length_take, List.length_drop, List.length_replicate, List.length_cons, List.length_nil, decs_length, List.length_map]; omega))) ?_; refine W_norm rfl ?_)
        )
        | (refine K_load ?_; first
          | (refine W_loadC hs 3 rfl rfl rfl ?_; refine W_norm rfl ?_)
        )
      )
      | (refine K_code ?_; first
        | refine W_seq ?_
        | refine W_ops ?_
        | (refine W_cond rfl (fun hc => ?_) (fun hc => ?_) <;> (try rw [hc]) <;> (try simp only [decide_eq_true_eq, decide_eq_false_iff_not, beq_iff_eq, beq_eq_false_iff_ne, bne_iff_ne, bne_eq_false_iff_eq, Bool.not_eq_true', Bool.not_eq_false', Int.not_lt, Int.not_le, ne_eq, reduceCtorEq, not_true_eq_false, not_false_eq_true, Decidable.not_not] at hc) <;> (try (exfalso; omega)) <;> (try refine W_norm rfl ?_))
        | refine W_exit ?_
      )
      | refine seqK_n ?_
      | refine seqK_x ?_
      | refine blockK_e ?_
      | refine invK_x ?_
      | (refine fnK_n rfl ?_; try dsimp only [gd_z, gd_s]))
    obtain rfl : k = z.h.toNat := by omega
    exact ⟨_, rfl, rfl, G, g, hn, hG, ((hs.drop 3).unadd)⟩
end Go.Proofs.YtfmldkjidfigbaaDoor
/- Compose: a part's line, of a row. -/
set_option linter.unusedSimpArgs false
set_option linter.unusedVariables false
set_option maxHeartbeats 1000000
set_option maxRecDepth 100000
namespace Go.Proofs.YtfmldkjidfigbaaDoor
open Go Go.Jx

structure PartV where
  r : Rc
  s : Bool
  v : SV
def part0 : PartV := ⟨rc0, false, .nils⟩
def partE : El PartV := ⟨6, fun p => [.int .i64 p.r.x, .int .i64 p.r.y, .int .i64 p.r.w, .int .i64 p.r.h, .bool p.s, p.v], fun l => match l with | [.int _ x, .int _ y, .int _ w, .int _ h, .bool s, v] => ⟨⟨x, y, w, h⟩, s, v⟩ | _ => part0, part0, fun _ => rfl, by decide, fun _ => rfl⟩
def mOf (p : PartV) (G : List (SV × List Cell)) : PartM := ⟨p.r, p.s, G.map Prod.snd⟩
theorem w37 {p : PartV} {z : Rc} {y : Int} {G : List (SV × List Cell)} {h : Heap} (hb : HasB h) (hv : NsR cellE (Now h) p.v G) (hG : G.length ≤ 10000000000000) (hg : ∀ g ∈ G, g.2.length ≤ 10000000000000)
    (hz : 1 ≤ z.w ∧ z.w ≤ 400) (hy : 0 ≤ y - p.r.y ∧ y - p.r.y ≤ 9223372036854775807) (hx : 0 ≤ z.x - p.r.x ∧ z.x - p.r.x ≤ 9223372036854775807) (hw : 0 < p.r.w) :
    Wc DD 37 [.agg (partE.enc p), i64 y, .agg (rcE.enc z)] h fun v h' => ∃ u c, v = .sc u ∧ OwnP cellE 34 u (lineL (mOf p G) y z) c ∧ Sep (Now h) [c] h' := by
  have hs := Sep.entry h
  have hln := hv.ln
  have hlG : (G.map Prod.fst).length = G.length := List.length_map _
  have hvs := hv.1
  by_cases hi : y - p.r.y < G.length
  · have hrow := hv.row (i := (y - p.r.y).toNat) (by omega)
    have hrl : ((G.map Prod.snd).getD (y - p.r.y).toNat []).length ≤ 10000000000000 := by
      rw [getD_map_snd G _ .nils []]
      exact hg _ (getD_mem (by omega))
    have hll : (mOf p G).l = G.map Prod.snd := rfl
    have hlr := hrow.ln
    generalize hrw : (G.map Prod.snd).getD (y - p.r.y).toNat [] = row at *
    refine W_enter d37 ?_
    show W _ (.code m37_code [.agg (partE.enc p), i64 y, .agg (rcE.enc z), undefA, undefA, undefA, undefA, undefA, undefA, undefA, undefA, undefA, undefA, undefA, undefA, undefA, undefA, undefA, undefA, undefA, undefA, undefA, undefA, undefA, undefA, undefA, undefA, undefA, undefA, undefA, undefA, undefA, undefA, undefA, undefA, undefA, undefA, undefA, undefA, undefA, undefA, undefA, undefA, undefA, undefA, undefA, undefA, undefA, undefA, undefA, undefA, undefA, undefA, undefA, undefA, undefA, undefA, undefA, undefA, undefA, undefA, undefA, undefA] _) _
    unfold m37_code
    repeat' (first
      | (refine K_ops ?_; first
        | refine W_fastB rfl ?_
        | refine W_nil ?_
        | (refine K_guard ?_; first
          | refine W_guard_on rfl ?_
          | refine W_guard_off rfl rfl (W_norm rfl ?_)
          | (refine W_guardF rfl (fun hc => ?_) (fun hc => ?_) <;> (try rw [hc]) <;> (try simp only [decide_eq_true_eq, decide_eq_false_iff_not, beq_iff_eq, beq_eq_false_iff_ne, bne_iff_ne, bne_eq_false_iff_eq, Bool.not_eq_true', Bool.not_eq_false', Int.not_lt, Int.not_le, ne_eq, reduceCtorEq, not_true_eq_false, not_false_eq_true, Decidable.not_not] at hc) <;> (try (exfalso; omega)) <;> (try refine W_norm rfl ?_))
        )
        | (refine K_call ?_; first
          | (refine W_callsN 17 rfl (w17 _ attr0 _) rfl ?_; rintro _ h3 ⟨u, c, rfl, ha, t⟩; have hs := hs.call t; try simp only [cell_back, attr_back, List.set_cons_zero, List.set_cons_succ, List.eraseIdx_cons_succ, List.eraseIdx_zero, List.tail_cons, List.nil_append, List.cons_append] at hs; refine W_norm rfl ?_)
          | (refine W_callsN 10 rfl (w10 (hb.now hs) (SlR.now hs hrow) hrl) rfl ?_; rintro _ h3 ⟨u, c, rfl, ha, t⟩; have hs := hs.call t; try simp only [cell_back, attr_back, List.set_cons_zero, List.set_cons_succ, List.eraseIdx_cons_succ, List.eraseIdx_zero, List.tail_cons, List.nil_append, List.cons_append] at hs; refine W_norm rfl ?_)
          | (refine W_callsN 43 rfl (w43 attr0 (by first | exact AccS.now (by assumption) hs (by simp) | exact OwnP.now (by assumption) hs (by simp)) (by (try simp only [tidyL_length, deleteL_length, resizeL_length]); (try split) <;> omega)) rfl ?_; rintro _ h3 ⟨u, c, rfl, ha, t⟩; have hs := hs.call t; try simp only [cell_back, attr_back, List.set_cons_zero, List.set_cons_succ, List.eraseIdx_cons_succ, List.eraseIdx_zero, List.tail_cons, List.nil_append, List.cons_append] at hs; refine W_norm rfl ?_)
          | (refine W_callsN 44 rfl (w44 attr0 (by exact OwnP.now (by assumption) hs (by simp)) (by (try simp only [tidyL_length, deleteL_length, resizeL_length]); (try split) <;> omega)) rfl ?_; rintro _ h3 ⟨u, c, rfl, ha, t⟩; have hs := hs.call t; try simp only [cell_back, attr_back, List.set_cons_zero, List.set_cons_succ, List.eraseIdx_cons_succ, List.eraseIdx_zero, List.tail_cons, List.nil_append, List.cons_append] at hs; refine W_norm rfl ?_)
        )
        | (refine W_lenL rfl (by first | assumption | exact SlR.ln (by assumption) | exact AccS.ln (by assumption) | exact OwnS.ln (by assumption) | exact VwO.ln (by assumption) | exact OwnP.ln (by assumption) | exact Len.sl) ?_; refine W_norm rfl ?_)
        | (refine K_bin ?_; first
          | (refine W_sub rfl rfl (IntWalk.i64_in _ (by first | omega | (simp only [List.length_set, List.length_append, List.length_take, List.length_drop, List.length_replicate, List.length_cons, List.length_nil, decs_length, List.length_map]; omega))) ?_; refine W_norm rfl ?_)
        )
        | (refine K_pick ?_; first
          | refine W_pick_t rfl rfl (W_norm rfl ?_)
          | refine W_pick_f rfl rfl (W_norm rfl ?_)
        )
        | (refine K_index ?_; first
          | (refine W_indexR rfl rfl (by assumption) rfl ⟨(by first | omega | (simp only [List.length_set, List.length_append, List.length_take, List.length_drop, List.length_replicate, List.length_cons, List.length_nil, decs_length, List.length_map]; omega)), (by first | omega | (simp only [List.length_set, List.length_append, List.length_take, List.length_drop, List.length_replicate, List.length_cons, List.length_nil, decs_length, List.length_map]; omega))⟩ ?_; intro _ _ _; refine W_norm rfl ?_)
        )
        | (refine K_load ?_; first
          | (refine W_loadR hs rfl (by assumption) rfl ?_; refine W_norm rfl ?_)
          | (refine W_loadC hs 0 rfl rfl rfl ?_; refine W_norm rfl ?_)
          | (refine W_loadC hs 1 rfl rfl rfl ?_; refine W_norm rfl ?_)
          | (refine W_loadC hs 2 rfl rfl rfl ?_; refine W_norm rfl ?_)
          | (refine W_loadC hs 3 rfl rfl rfl ?_; refine W_norm rfl ?_)
        )
        | (refine W_boxS hs rfl rfl ?_; intro bx _ hs; try simp only [cell_back, attr_back, List.set_cons_zero, List.set_cons_succ, List.eraseIdx_cons_succ, List.eraseIdx_zero, List.tail_cons, List.nil_append, List.cons_append] at hs; refine W_norm rfl ?_)
        | (refine W_buildN rfl ?_; refine W_norm rfl ?_)
      )
      | (refine K_code ?_; first
        | refine W_seq ?_
        | refine W_ops ?_
        | refine W_cond_t rfl ?_
        | (refine W_cond rfl (fun hc => ?_) (fun hc => ?_) <;> (try rw [hc]) <;> (try simp only [decide_eq_true_eq, decide_eq_false_iff_not, beq_iff_eq, beq_eq_false_iff_ne, bne_iff_ne, bne_eq_false_iff_eq, Bool.not_eq_true', Bool.not_eq_false', Int.not_lt, Int.not_le, ne_eq, reduceCtorEq, not_true_eq_false, not_false_eq_true, Decidable.not_not] at hc) <;> (try (exfalso; omega)) <;> (try refine W_norm rfl ?_))
        | refine W_skip ?_
        | refine W_ret ?_
        | refine W_draws ?_
      )
      | refine W_dstep rfl ?_
      | refine ⟨rfl, fun rc hrec => ?_⟩
      | (refine W_dnilS (by simp only [List.reverse_cons, List.reverse_nil, List.nil_append, List.cons_append]; rfl) (by repeat' first | exact CL_nil _ _ | refine CL_skip rfl ?_ | refine CL_load (by assumption) rfl (by first | exact trivial | (repeat' first | exact trivial | refine ⟨⟨_, rfl, (by refine (congrArg (fun x => Heap.get x _) (RecIs.hh (by assumption))).trans ?_; first | rfl | exact PtR.same_get (by assumption) (by assumption) (by assumption) | exact Sep.same_get (by assumption) (by assumption) 0 0 rfl rfl | exact Sep.same_get (by assumption) (by assumption) 0 1 rfl rfl | exact Sep.same_get (by assumption) (by assumption) 0 2 rfl rfl | exact Sep.same_get (by assumption) (by assumption) 0 3 rfl rfl | exact Sep.same_get (by assumption) (by assumption) 1 0 rfl rfl | exact Sep.same_get (by assumption) (by assumption) 1 1 rfl rfl | exact Sep.same_get (by assumption) (by assumption) 1 2 rfl rfl | exact Sep.same_get (by assumption) (by assumption) 1 3 rfl rfl | exact Sep.same_get (by assumption) (by assumption) 2 0 rfl rfl | exact Sep.same_get (by assumption) (by assumption) 2 1 rfl rfl | exact Sep.same_get (by assumption) (by assumption) 2 2 rfl rfl | exact Sep.same_get (by assumption) (by assumption) 2 3 rfl rfl | exact Sep.same_get (by assumption) (by assumption) 3 0 rfl rfl | exact Sep.same_get (by assumption) (by assumption) 3 1 rfl rfl | exact Sep.same_get (by assumption) (by assumption) 3 2 rfl rfl | exact Sep.same_get (by assumption) (by assumption) 3 3 rfl rfl)⟩, ?_⟩)) (by first | exact trivial | (repeat' first | exact trivial | refine ⟨⟨_, rfl, (by refine (congrArg (fun x => Heap.get x _) (RecIs.hh' (by assumption))).trans ?_; first | rfl | exact PtR.same_get (by assumption) (by assumption) (by assumption) | exact Sep.same_get (by assumption) (by assumption) 0 0 rfl rfl | exact Sep.same_get (by assumption) (by assumption) 0 1 rfl rfl | exact Sep.same_get (by assumption) (by assumption) 0 2 rfl rfl | exact Sep.same_get (by assumption) (by assumption) 0 3 rfl rfl | exact Sep.same_get (by assumption) (by assumption) 1 0 rfl rfl | exact Sep.same_get (by assumption) (by assumption) 1 1 rfl rfl | exact Sep.same_get (by assumption) (by assumption) 1 2 rfl rfl | exact Sep.same_get (by assumption) (by assumption) 1 3 rfl rfl | exact Sep.same_get (by assumption) (by assumption) 2 0 rfl rfl | exact Sep.same_get (by assumption) (by assumption) 2 1 rfl rfl | exact Sep.same_get (by assumption) (by assumption) 2 2 rfl rfl | exact Sep.same_get (by assumption) (by assumption) 2 3 rfl rfl | exact Sep.same_get (by assumption) (by assumption) 3 0 rfl rfl | exact Sep.same_get (by assumption) (by assumption) 3 1 rfl rfl | exact Sep.same_get (by assumption) (by assumption) 3 2 rfl rfl | exact Sep.same_get (by assumption) (by assumption) 3 3 rfl rfl)⟩, ?_⟩)) ?_) ?_)
      | refine seqK_n ?_
      | refine seqK_r ?_
      | (refine fnK_r rfl ?_; try dsimp only [gd_z, gd_s]))
    · refine ⟨_, rfl, _, _, rfl, ?_, hs.hd⟩
      rw [if_pos hz] at ha
      unfold lineL
      rw [if_pos (by simp only [mOf, List.length_map, hrw]; omega)]
      exact ha.p
    · refine ⟨_, rfl, _, _, rfl, ?_, hs.hd⟩
      unfold lineL
      rw [if_neg (by simp only [mOf, List.length_map, hrw]; omega)]
      simp only [mOf, hrw]
      exact ha
    · refine ⟨_, rfl, _, _, rfl, ?_, hs.hd⟩
      rw [if_pos hz] at ha
      unfold lineL
      rw [if_pos (by simp only [mOf, List.length_map, hrw]; omega)]
      exact ha.p
  · refine W_enter d37 ?_
    show W _ (.code m37_code [.agg (partE.enc p), i64 y, .agg (rcE.enc z), undefA, undefA, undefA, undefA, undefA, undefA, undefA, undefA, undefA, undefA, undefA, undefA, undefA, undefA, undefA, undefA, undefA, undefA, undefA, undefA, undefA, undefA, undefA, undefA, undefA, undefA, undefA, undefA, undefA, undefA, undefA, undefA, undefA, undefA, undefA, undefA, undefA, undefA, undefA, undefA, undefA, undefA, undefA, undefA, undefA, undefA, undefA, undefA, undefA, undefA, undefA, undefA, undefA, undefA, undefA, undefA, undefA, undefA, undefA, undefA] _) _
    unfold m37_code
    repeat' (first
      | (refine K_ops ?_; first
        | refine W_fastB rfl ?_
        | refine W_nil ?_
        | (refine K_guard ?_; first
          | refine W_guard_on rfl ?_
          | refine W_guard_off rfl rfl (W_norm rfl ?_)
          | (refine W_guardF rfl (fun hc => ?_) (fun hc => ?_) <;> (try rw [hc]) <;> (try simp only [decide_eq_true_eq, decide_eq_false_iff_not, beq_iff_eq, beq_eq_false_iff_ne, bne_iff_ne, bne_eq_false_iff_eq, Bool.not_eq_true', Bool.not_eq_false', Int.not_lt, Int.not_le, ne_eq, reduceCtorEq, not_true_eq_false, not_false_eq_true, Decidable.not_not] at hc) <;> (try (exfalso; omega)) <;> (try refine W_norm rfl ?_))
        )
        | (refine K_call ?_; first
          | (refine W_callsN 17 rfl (w17 _ attr0 _) rfl ?_; rintro _ h3 ⟨u, c, rfl, ha, t⟩; replace hs := hs.call t; try simp only [cell_back, attr_back, List.set_cons_zero, List.set_cons_succ, List.eraseIdx_cons_succ, List.eraseIdx_zero, List.tail_cons, List.nil_append, List.cons_append] at hs; refine W_norm rfl ?_)
        )
        | (refine W_lenL rfl (by first | assumption | exact SlR.ln (by assumption) | exact AccS.ln (by assumption) | exact OwnS.ln (by assumption) | exact VwO.ln (by assumption) | exact OwnP.ln (by assumption) | exact Len.sl) ?_; refine W_norm rfl ?_)
        | (refine K_bin ?_; first
          | (refine W_sub rfl rfl (IntWalk.i64_in _ (by first | omega | (simp only [List.length_set, List.length_append, List.length_take, List.length_drop, List.length_replicate, List.length_cons, List.length_nil, decs_length, List.length_map]; omega))) ?_; refine W_norm rfl ?_)
        )
        | (refine K_pick ?_; first
          | refine W_pick_t rfl rfl (W_norm rfl ?_)
          | refine W_pick_f rfl rfl (W_norm rfl ?_)
        )
        | (refine K_load ?_; first
          | (refine W_loadC hs 0 rfl rfl rfl ?_; refine W_norm rfl ?_)
          | (refine W_loadC hs 1 rfl rfl rfl ?_; refine W_norm rfl ?_)
        )
        | (refine W_boxS hs rfl rfl ?_; clear hs; intro bx _ hs; try simp only [cell_back, attr_back, List.set_cons_zero, List.set_cons_succ, List.eraseIdx_cons_succ, List.eraseIdx_zero, List.tail_cons, List.nil_append, List.cons_append] at hs; refine W_norm rfl ?_)
        | (refine W_buildN rfl ?_; refine W_norm rfl ?_)
      )
      | (refine K_code ?_; first
        | refine W_seq ?_
        | refine W_ops ?_
        | refine W_cond_t rfl ?_
        | refine W_ret ?_
      )
      | refine seqK_n ?_
      | refine seqK_r ?_
      | (refine fnK_r rfl ?_; try dsimp only [gd_z, gd_s]))
    all_goals refine ⟨_, rfl, _, _, rfl, ?_, hs.hd⟩
    all_goals rw [if_pos hz] at ha
    all_goals unfold lineL
    all_goals rw [if_pos (by simp only [mOf, List.length_map]; omega)]
    all_goals exact ha.p
end Go.Proofs.YtfmldkjidfigbaaDoor
/- Compose: a part is laid. -/
set_option linter.unusedSimpArgs false
set_option linter.unusedVariables false
set_option maxHeartbeats 1000000
set_option maxRecDepth 100000
namespace Go.Proofs.YtfmldkjidfigbaaDoor
open Go Go.Jx

def HasR (R : Ro) : Prop := ∃ t, R 0 (.cells t .ro (bnd.flatMap encB))
theorem HasR.now {R : Ro} {M : List Hp} {h : Heap} (hb : HasR R) (s : Sep R M h) : HasB h := by
  obtain ⟨t, k⟩ := hb
  exact ⟨t, s.ro _ _ k⟩
theorem lineL_length {p : PartM} {y : Int} {z : Rc} (hz : 1 ≤ z.w ∧ z.w ≤ 400) : (lineL p y z).length = z.w.toNat := by
  unfold lineL
  split
  · simp
  · rw [resizeL_length, if_pos hz]
theorem _root_.Go.Jx.OwnP.inR {α : Type} {E : El α} {t : TypeId} {R : Ro} {v : SV} {L : List α} {c : Hp} (p : OwnP E t v L c) (s : ∀ x ∈ c, R x.1 x.2) : SlR E R v L := by
  rcases p with ⟨h1, _, h2⟩ | ⟨id, kd, cap, X, rfl, hcap, rfl, hk⟩
  · exact .inl ⟨h1, h2⟩
  · refine .inr ⟨id, 0, _, t, kd, _, rfl, hcap, s (id, .cells t kd ((L ++ X).flatMap E.enc)) (by simp), fun i x hx => ?_⟩
    rw [Nat.zero_add, List.flatMap_def]
    refine readN_flatten (by intro c hc; obtain ⟨a, _, rfl⟩ := List.mem_map.1 hc; exact E.len a) ?_
    rw [List.getElem?_map, List.getElem?_append_left (List.getElem?_eq_some_iff.1 hx).1, hx]; rfl
theorem w18 {R : Ro} {M : List Hp} {h : Heap} {pid wd : Nat} {Z : Rc} {rv : SV} {H : List Hc} {c : Hp} {p : PartV} {G : List (SV × List Cell)} (hs : Sep R (pgO pid Z rv :: c :: hpOf H :: M) h) (hn : NsO cellE 34 35 rv H c)
    (hZ : PageR Z wd H.length) (hA : AllW (H.map Hd.L) wd) (hp : RcI p.r) (hb : HasR R) (hv : NsR cellE R p.v G) (hG : G.length ≤ 10000000000000) (hg : ∀ g ∈ G, g.2.length ≤ 10000000000000) :
    Wc DD 18 [.sc (.ptr pid 0), .agg (partE.enc p)] h fun v h' => v = .tup [] ∧ ∃ H' c', NsO cellE 34 35 rv H' c' ∧ H'.map Hd.L = partR Z (H.map Hd.L) (mOf p G) ∧ Sep R (pgO pid Z rv :: c' :: hpOf H' :: M) h' := by
  have hin := crop_in hZ hp
  have hcp := crop_page hZ hp
  obtain ⟨hZ0, hw1, hw2, hH⟩ := hZ
  have hZI : RcI Z := by
    subst hZ0
    refine ⟨?_, ?_, ?_, ?_⟩ <;> (unfold InI; simp only; omega)
  refine W_enter d18 ?_
  show W _ (.code m18_code [.sc (.ptr pid 0), .agg (partE.enc p), undefA, undefA, undefA, undefA, undefA, undefA, undefA, undefA, undefA, undefA, undefA, undefA, undefA, undefA, undefA, undefA, undefA, undefA, undefA, undefA, undefA, undefA, undefA, undefA, undefA, undefA, undefA, undefA, undefA, undefA, undefA, undefA, undefA, undefA, undefA, undefA, undefA, undefA, undefA] _) _
  unfold m18_code
  repeat' (first
    | (refine K_ops ?_; first
      | refine W_fastB rfl ?_
      | refine W_nil ?_
      | (refine K_call ?_; first
        | (refine W_callsN 13 rfl (w13 hp hZI) rfl ?_; rintro _ h3 ⟨rfl, t⟩; have hs := hs.call t; try simp only [cell_back, attr_back, List.set_cons_zero, List.set_cons_succ, List.eraseIdx_cons_succ, List.eraseIdx_zero, List.tail_cons, List.nil_append, List.cons_append] at hs; refine W_norm rfl ?_)
      )
      | (refine K_load ?_; first
        | (refine W_loadC hs 0 rfl rfl rfl ?_; refine W_norm rfl ?_)
        | (refine W_loadCA hs 0 rfl rfl rfl ?_; refine W_norm rfl ?_)
        | (refine W_loadC hs 1 rfl rfl rfl ?_; refine W_norm rfl ?_)
        | (refine W_loadCA hs 1 rfl rfl rfl ?_; refine W_norm rfl ?_)
        | (refine W_loadCA hs 2 rfl rfl rfl ?_; refine W_norm rfl ?_)
      )
      | (refine K_store ?_; first
        | (refine W_storeC hs 0 rfl rfl rfl rfl (by first | decide | assumption) rfl rfl ?_; intro _ hs; try simp only [cell_back, attr_back, List.set_cons_zero, List.set_cons_succ, List.eraseIdx_cons_succ, List.eraseIdx_zero, List.tail_cons, List.nil_append, List.cons_append] at hs; refine W_norm rfl ?_)
      )
      | (refine W_allocS hs ?_; intro al _ hs; try simp only [cell_back, attr_back, List.set_cons_zero, List.set_cons_succ, List.eraseIdx_cons_succ, List.eraseIdx_zero, List.tail_cons, List.nil_append, List.cons_append] at hs; refine W_norm rfl ?_)
      | (refine W_boxS hs rfl rfl ?_; intro bx _ hs; try simp only [cell_back, attr_back, List.set_cons_zero, List.set_cons_succ, List.eraseIdx_cons_succ, List.eraseIdx_zero, List.tail_cons, List.nil_append, List.cons_append] at hs; refine W_norm rfl ?_)
      | (refine W_buildN rfl ?_; refine W_norm rfl ?_)
    )
    | (refine K_code ?_; first
      | refine W_seq ?_
      | refine W_ops ?_
      | (refine W_cond rfl (fun hc => ?_) (fun hc => ?_) <;> (try rw [hc]) <;> (try simp only [decide_eq_true_eq, decide_eq_false_iff_not, beq_iff_eq, beq_eq_false_iff_ne, bne_iff_ne, bne_eq_false_iff_eq, Bool.not_eq_true', Bool.not_eq_false', Int.not_lt, Int.not_le, ne_eq, reduceCtorEq, not_true_eq_false, not_false_eq_true, Decidable.not_not] at hc) <;> (try (exfalso; omega)) <;> (try refine W_norm rfl ?_))
      | refine W_skip ?_
      | refine W_block ?_
      | refine W_draws ?_
    )
    | refine W_dstep rfl ?_
    | refine ⟨rfl, fun rc hrec => ?_⟩
    | (refine W_dnilS (by simp only [List.reverse_cons, List.reverse_nil, List.nil_append, List.cons_append]; rfl) (by repeat' first | exact CL_nil _ _ | refine CL_skip rfl ?_ | refine CL_load (by assumption) rfl (by first | exact trivial | (repeat' first | exact trivial | refine ⟨⟨_, rfl, (by refine (congrArg (fun x => Heap.get x _) (RecIs.hh (by assumption))).trans ?_; first | rfl | exact PtR.same_get (by assumption) (by assumption) (by assumption) | exact Sep.same_get (by assumption) (by assumption) 0 0 rfl rfl | exact Sep.same_get (by assumption) (by assumption) 0 1 rfl rfl | exact Sep.same_get (by assumption) (by assumption) 0 2 rfl rfl | exact Sep.same_get (by assumption) (by assumption) 0 3 rfl rfl | exact Sep.same_get (by assumption) (by assumption) 0 4 rfl rfl | exact Sep.same_get (by assumption) (by assumption) 1 0 rfl rfl | exact Sep.same_get (by assumption) (by assumption) 1 1 rfl rfl | exact Sep.same_get (by assumption) (by assumption) 1 2 rfl rfl | exact Sep.same_get (by assumption) (by assumption) 1 3 rfl rfl | exact Sep.same_get (by assumption) (by assumption) 1 4 rfl rfl | exact Sep.same_get (by assumption) (by assumption) 2 0 rfl rfl | exact Sep.same_get (by assumption) (by assumption) 2 1 rfl rfl | exact Sep.same_get (by assumption) (by assumption) 2 2 rfl rfl | exact Sep.same_get (by assumption) (by assumption) 2 3 rfl rfl | exact Sep.same_get (by assumption) (by assumption) 2 4 rfl rfl | exact Sep.same_get (by assumption) (by assumption) 3 0 rfl rfl | exact Sep.same_get (by assumption) (by assumption) 3 1 rfl rfl | exact Sep.same_get (by assumption) (by assumption) 3 2 rfl rfl | exact Sep.same_get (by assumption) (by assumption) 3 3 rfl rfl | exact Sep.same_get (by assumption) (by assumption) 3 4 rfl rfl | exact Sep.same_get (by assumption) (by assumption) 4 0 rfl rfl | exact Sep.same_get (by assumption) (by assumption) 4 1 rfl rfl | exact Sep.same_get (by assumption) (by assumption) 4 2 rfl rfl | exact Sep.same_get (by assumption) (by assumption) 4 3 rfl rfl | exact Sep.same_get (by assumption) (by assumption) 4 4 rfl rfl)⟩, ?_⟩)) (by first | exact trivial | (repeat' first | exact trivial | refine ⟨⟨_, rfl, (by refine (congrArg (fun x => Heap.get x _) (RecIs.hh' (by assumption))).trans ?_; first | rfl | exact PtR.same_get (by assumption) (by assumption) (by assumption) | exact Sep.same_get (by assumption) (by assumption) 0 0 rfl rfl | exact Sep.same_get (by assumption) (by assumption) 0 1 rfl rfl | exact Sep.same_get (by assumption) (by assumption) 0 2 rfl rfl | exact Sep.same_get (by assumption) (by assumption) 0 3 rfl rfl | exact Sep.same_get (by assumption) (by assumption) 0 4 rfl rfl | exact Sep.same_get (by assumption) (by assumption) 1 0 rfl rfl | exact Sep.same_get (by assumption) (by assumption) 1 1 rfl rfl | exact Sep.same_get (by assumption) (by assumption) 1 2 rfl rfl | exact Sep.same_get (by assumption) (by assumption) 1 3 rfl rfl | exact Sep.same_get (by assumption) (by assumption) 1 4 rfl rfl | exact Sep.same_get (by assumption) (by assumption) 2 0 rfl rfl | exact Sep.same_get (by assumption) (by assumption) 2 1 rfl rfl | exact Sep.same_get (by assumption) (by assumption) 2 2 rfl rfl | exact Sep.same_get (by assumption) (by assumption) 2 3 rfl rfl | exact Sep.same_get (by assumption) (by assumption) 2 4 rfl rfl | exact Sep.same_get (by assumption) (by assumption) 3 0 rfl rfl | exact Sep.same_get (by assumption) (by assumption) 3 1 rfl rfl | exact Sep.same_get (by assumption) (by assumption) 3 2 rfl rfl | exact Sep.same_get (by assumption) (by assumption) 3 3 rfl rfl | exact Sep.same_get (by assumption) (by assumption) 3 4 rfl rfl | exact Sep.same_get (by assumption) (by assumption) 4 0 rfl rfl | exact Sep.same_get (by assumption) (by assumption) 4 1 rfl rfl | exact Sep.same_get (by assumption) (by assumption) 4 2 rfl rfl | exact Sep.same_get (by assumption) (by assumption) 4 3 rfl rfl | exact Sep.same_get (by assumption) (by assumption) 4 4 rfl rfl)⟩, ?_⟩)) ?_) ?_)
    | refine seqK_n ?_)
  all_goals replace hs : Sep R ([(al, .cells 37 .own (rcE.enc (cropR p.r Z)))] :: [(bx, .cells 40 .own (partE.enc p))] :: pgO pid Z rv :: c :: hpOf H :: M) _ := hs
  all_goals replace hs : Sep R (pgO pid Z rv :: c :: hpOf H :: [(al, .cells 37 .own (rcE.enc (cropR p.r Z)))] :: [(bx, .cells 40 .own (partE.enc p))] :: M) _ := hs.reord (fun a => by simp only [List.flatten_cons, List.flatten_nil, List.count_append, List.count_nil, hpOf_append, hpOf_cons, hpOf_nil, List.append_nil, List.eraseIdx_cons_succ, List.eraseIdx_zero, List.tail_cons] <;> omega)
  · repeat' (first
      | (refine K_ops ?_; first
        | refine W_nil ?_
        | (refine K_call ?_; first
          | (refine W_callsN 35 rfl (w35 (z := cropR p.r Z) (C := shadeC) hs hn hin hA hw2 hH) rfl ?_; rintro _ h5 ⟨rfl, G2, g2, hn2, hG2, hs⟩; refine W_norm rfl ?_)
        )
      )
      | (refine K_code ?_; first
        | refine W_ret ?_
      )
      | refine seqK_n ?_
      | refine seqK_r ?_
      | (refine fnK_r rfl ?_; try dsimp only [gd_z, gd_s]))
    refine ⟨_, rfl, rfl, G2, g2, hn2, ?_, (hs.drop 3).drop 3⟩
    rw [hG2]
    unfold partR
    rw [if_neg (by show ¬ (p.s = true); rw [hc]; decide)]
    rfl
  · have hps : (mOf p G).s = true := by show p.s = true; exact hc
    have hpr : (mOf p G).r = p.r := rfl
    unfold partR
    rw [hps, if_pos rfl, hpr]
    have hzz : 0 ≤ (cropR p.r Z).w ∧ (cropR p.r Z).w ≤ 400 ∧ 0 ≤ (cropR p.r Z).h ∧ (cropR p.r Z).h ≤ 400 ∧ 0 ≤ (cropR p.r Z).y ∧ (cropR p.r Z).y + (cropR p.r Z).h ≤ H.length ∧ 0 ≤ (cropR p.r Z).x ∧ (cropR p.r Z).x + (cropR p.r Z).w ≤ wd ∧ (1 ≤ (cropR p.r Z).h → 1 ≤ (cropR p.r Z).w ∧ p.r.x ≤ (cropR p.r Z).x ∧ p.r.y ≤ (cropR p.r Z).y ∧ 0 < p.r.w ∧ (cropR p.r Z).x - p.r.x < p.r.w ∧ (cropR p.r Z).y + (cropR p.r Z).h - p.r.y ≤ p.r.h) := by
      rcases hcp with h0 | h0
      · rw [h0]; simp [rc0]
      · omega
    clear hcp hin
    have hpi := hp
    obtain ⟨⟨q1, q2⟩, ⟨q3, q4⟩, ⟨q5, q6⟩, ⟨q7, q8⟩⟩ := hpi
    generalize cropR p.r Z = z at *
    refine W_loopB [5, 23, 24, 25, 26, 27, 28, 29, 30, 31, 32, 33, 34, 35, 36, 37, 38, 39, 40] [0, 1, 2, 3, 4, 5, 6, 7, 8, 9, 10, 11, 12, 13, 14, 15, 16, 17, 18, 19, 20, 21, 22, 23, 24, 25, 26, 27, 28, 29, 30, 31, 32, 33, 34, 35, 36, 37, 38, 39, 40] (fun n' sl h' => ∃ (k : Nat) (y : Int) (F : List Hc) (f : Hp), sl = [(0, .sc (.ptr pid 0)), (3, .sc (.ptr bx 0)), (4, .sc (.ptr al 0)), (5, .sc (.int .i64 y))] ∧ n' = z.h.toNat - k ∧ k ≤ z.h.toNat ∧ y = z.y + k ∧ NsO cellE 34 35 rv F f ∧ F.map Hd.L = drawN (H.map Hd.L) z.x z.y.toNat (fun y => lineL (mOf p G) y z) k ∧ Sep R (pgO pid Z rv :: f :: hpOf F :: [(al, .cells 37 .own (rcE.enc z))] :: [(bx, .cells 40 .own (partE.enc p))] :: M) h') ?_ ?_
    · refine ⟨_, _, ⟨0, z.y, H, c, rfl, rfl, Nat.zero_le _, by omega, hn, rfl, hs⟩, EnvB.of rfl⟩
    clear hs hn
    rintro _ _ us _ h4 ⟨k, y, F, f, rfl, rfl, hk, rfl, hn, hF, hs⟩ he
    refine W_spell he rfl ?_
    clear he
    unfold m18_l6
    have hFl : F.length = H.length := by
      have := congrArg List.length hF
      rwa [drawN_length, List.length_map, List.length_map] at this
    obtain ⟨xn, hxn⟩ : ∃ j : Nat, z.x = (j : Int) := ⟨z.x.toNat, by omega⟩
    by_cases hlt : k < z.h.toNat
    · have hll : ∀ y : Int, (lineL (mOf p G) y z).length = z.w.toNat := fun y => lineL_length (by omega)
      have hFA : AllW (F.map Hd.L) wd := by
        rw [hF, hxn]
        exact drawN_all hA (fun _ => by rw [hll]; omega) (by rw [List.length_map]; omega)
      have hrl : ((F.map Hd.L).getD (z.y + (k : Int)).toNat []).length = wd := hFA.get (by rw [List.length_map]; omega)
      repeat' (first
        | (refine K_ops ?_; first
          | refine W_fastB rfl ?_
          | refine W_nil ?_
          | (refine K_call ?_; first
            | (refine W_callsN 37 rfl (w37 (p := p) (z := z) (hb.now hs) (hv.now hs) hG hg (by omega) (by omega) (by omega) (by omega)) rfl ?_; rintro _ h5 ⟨u, d, rfl, hu, t⟩; have hs := hs.call t; try simp only [cell_back, attr_back, List.set_cons_zero, List.set_cons_succ, List.eraseIdx_cons_succ, List.eraseIdx_zero, List.tail_cons, List.nil_append, List.cons_append] at hs; refine W_norm rfl ?_)
            | (refine W_callsN 36 rfl (w36 (hs.freeze 0 rfl) hn (hu.inR fun x hx => .inr hx) (by omega) (by omega) (by rw [hrl, hll]; omega) (by rw [hll]; omega) (by omega)) rfl ?_; rintro _ h6 ⟨rfl, G2, g2, hn2, hG2, hs⟩; refine W_norm rfl ?_)
          )
          | (refine K_bin ?_; first
            | (refine W_add rfl rfl (IntWalk.i64_in _ (by first | omega | (simp only [List.length_set, List.length_append, List.length_take, List.length_drop, List.length_replicate, List.length_cons, List.length_nil, decs_length, List.length_map]; omega))) ?_; refine W_norm rfl ?_)
          )
          | (refine K_load ?_; first
            | (refine W_loadC hs 3 rfl rfl rfl ?_; refine W_norm rfl ?_)
            | (refine W_loadCA hs 3 rfl rfl rfl ?_; refine W_norm rfl ?_)
            | (refine W_loadCA hs 4 rfl rfl rfl ?_; refine W_norm rfl ?_)
          )
        )
        | (refine K_code ?_; first
          | refine W_seq ?_
          | refine W_ops ?_
          | (refine W_cond rfl (fun hc => ?_) (fun hc => ?_) <;> (try rw [hc]) <;> (try simp only [decide_eq_true_eq, decide_eq_false_iff_not, beq_iff_eq, beq_eq_false_iff_ne, bne_iff_ne, bne_eq_false_iff_eq, Bool.not_eq_true', Bool.not_eq_false', Int.not_lt, Int.not_le, ne_eq, reduceCtorEq, not_true_eq_false, not_false_eq_true, Decidable.not_not] at hc) <;> (try (exfalso; omega)) <;> (try refine W_norm rfl ?_))
          | refine W_skip ?_
          | refine W_block ?_
          | refine W_draws ?_
        )
        | refine W_dstep rfl ?_
        | refine ⟨rfl, fun rc hrec => ?_⟩
        | (refine W_dnilS (by simp only [List.reverse_cons, List.reverse_nil, List.nil_append, List.cons_append]; rfl) (by repeat' first | exact CL_nil _ _ | refine CL_skip rfl ?_ | refine CL_load (by assumption) rfl (by first | exact trivial | (repeat' first | exact trivial | refine ⟨⟨_, rfl, (by refine (congrArg (fun x => Heap.get x _) (RecIs.hh (by assumption))).trans ?_; first | rfl | exact PtR.same_get (by assumption) (by assumption) (by assumption) | exact Sep.same_get (by assumption) (by assumption) 0 0 rfl rfl | exact Sep.same_get (by assumption) (by assumption) 0 1 rfl rfl | exact Sep.same_get (by assumption) (by assumption) 0 2 rfl rfl | exact Sep.same_get (by assumption) (by assumption) 0 3 rfl rfl | exact Sep.same_get (by assumption) (by assumption) 0 4 rfl rfl | exact Sep.same_get (by assumption) (by assumption) 0 5 rfl rfl | exact Sep.same_get (by assumption) (by assumption) 1 0 rfl rfl | exact Sep.same_get (by assumption) (by assumption) 1 1 rfl rfl | exact Sep.same_get (by assumption) (by assumption) 1 2 rfl rfl | exact Sep.same_get (by assumption) (by assumption) 1 3 rfl rfl | exact Sep.same_get (by assumption) (by assumption) 1 4 rfl rfl | exact Sep.same_get (by assumption) (by assumption) 1 5 rfl rfl | exact Sep.same_get (by assumption) (by assumption) 2 0 rfl rfl | exact Sep.same_get (by assumption) (by assumption) 2 1 rfl rfl | exact Sep.same_get (by assumption) (by assumption) 2 2 rfl rfl | exact Sep.same_get (by assumption) (by assumption) 2 3 rfl rfl | exact Sep.same_get (by assumption) (by assumption) 2 4 rfl rfl | exact Sep.same_get (by assumption) (by assumption) 2 5 rfl rfl | exact Sep.same_get (by assumption) (by assumption) 3 0 rfl rfl | exact Sep.same_get (by assumption) (by assumption) 3 1 rfl rfl | exact Sep.same_get (by assumption) (by assumption) 3 2 rfl rfl | exact Sep.same_get (by assumption) (by assumption) 3 3 rfl rfl | exact Sep.same_get (by assumption) (by assumption) 3 4 rfl rfl | exact Sep.same_get (by assumption) (by assumption) 3 5 rfl rfl | exact Sep.same_get (by assumption) (by assumption) 4 0 rfl rfl | exact Sep.same_get (by assumption) (by assumption) 4 1 rfl rfl | exact Sep.same_get (by assumption) (by assumption) 4 2 rfl rfl | exact Sep.same_get (by assumption) (by assumption) 4 3 rfl rfl | exact Sep.same_get (by assumption) (by assumption) 4 4 rfl rfl | exact Sep.same_get (by assumption) (by assumption) 4 5 rfl rfl | exact Sep.same_get (by assumption) (by assumption) 5 0 rfl rfl | exact Sep.same_get (by assumption) (by assumption) 5 1 rfl rfl | exact Sep.same_get (by assumption) (by assumption) 5 2 rfl rfl | exact Sep.same_get (by assumption) (by assumption) 5 3 rfl rfl | exact Sep.same_get (by assumption) (by assumption) 5 4 rfl rfl | exact Sep.same_get (by assumption) (by assumption) 5 5 rfl rfl)⟩, ?_⟩)) (by first | exact trivial | (repeat' first | exact trivial | refine ⟨⟨_, rfl, (by refine (congrArg (fun x => Heap.get x _) (RecIs.hh' (by assumption))).trans ?_; first | rfl | exact PtR.same_get (by assumption) (by assumption) (by assumption) | exact Sep.same_get (by assumption) (by assumption) 0 0 rfl rfl | exact Sep.same_get (by assumption) (by assumption) 0 1 rfl rfl | exact Sep.same_get (by assumption) (by assumption) 0 2 rfl rfl | exact Sep.same_get (by assumption) (by assumption) 0 3 rfl rfl | exact Sep.same_get (by assumption) (by assumption) 0 4 rfl rfl | exact Sep.same_get (by assumption) (by assumption) 0 5 rfl rfl | exact Sep.same_get (by assumption) (by assumption) 1 0 rfl rfl | exact Sep.same_get (by assumption) (by assumption) 1 1 rfl rfl | exact Sep.same_get (by assumption) (by assumption) 1 2 rfl rfl | exact Sep.same_get (by assumption) (by assumption) 1 3 rfl rfl | exact Sep.same_get (by assumption) (by assumption) 1 4 rfl rfl | exact Sep.same_get (by assumption) (by assumption) 1 5 rfl rfl | exact Sep.same_get (by assumption) (by assumption) 2 0 rfl rfl | exact Sep.same_get (by assumption) (by assumption) 2 1 rfl rfl | exact Sep.same_get (by assumption) (by assumption) 2 2 rfl rfl | exact Sep.same_get (by assumption) (by assumption) 2 3 rfl rfl | exact Sep.same_get (by assumption) (by assumption) 2 4 rfl rfl | exact Sep.same_get (by assumption) (by assumption) 2 5 rfl rfl | exact Sep.same_get (by assumption) (by assumption) 3 0 rfl rfl | exact Sep.same_get (by assumption) (by assumption) 3 1 rfl rfl | exact Sep.same_get (by assumption) (by assumption) 3 2 rfl rfl | exact Sep.same_get (by assumption) (by assumption) 3 3 rfl rfl | exact Sep.same_get (by assumption) (by assumption) 3 4 rfl rfl | exact Sep.same_get (by assumption) (by assumption) 3 5 rfl rfl | exact Sep.same_get (by assumption) (by assumption) 4 0 rfl rfl | exact Sep.same_get (by assumption) (by assumption) 4 1 rfl rfl | exact Sep.same_get (by assumption) (by assumption) 4 2 rfl rfl | exact Sep.same_get (by assumption) (by assumption) 4 3 rfl rfl | exact Sep.same_get (by assumption) (by assumption) 4 4 rfl rfl | exact Sep.same_get (by assumption) (by assumption) 4 5 rfl rfl | exact Sep.same_get (by assumption) (by assumption) 5 0 rfl rfl | exact Sep.same_get (by assumption) (by assumption) 5 1 rfl rfl | exact Sep.same_get (by assumption) (by assumption) 5 2 rfl rfl | exact Sep.same_get (by assumption) (by assumption) 5 3 rfl rfl | exact Sep.same_get (by assumption) (by assumption) 5 4 rfl rfl | exact Sep.same_get (by assumption) (by assumption) 5 5 rfl rfl)⟩, ?_⟩)) ?_) ?_)
        | refine seqK_n ?_
        | refine blockK_n ?_
        | refine invK_n ?_)
      replace hs := hs.unadd
      refine ⟨_, ?_, _, ⟨k + 1, _, G2, g2, rfl, rfl, ?_, ?_, hn2, ?_, hs⟩, EnvB.of rfl⟩
      · omega
      · omega
      · omega
      · rw [hG2, hF]
        have e1 : (z.y + (k : Int)).toNat = z.y.toNat + k := by omega
        have e2 : z.y + (k : Int) = ((z.y.toNat + k : Nat) : Int) := by omega
        rw [e1, e2]
        rfl
    · repeat' (first
        | (refine K_ops ?_; first
          | refine W_fastB rfl ?_
          | refine W_nil ?_
          | (refine K_bin ?_; first
            | (refine W_add rfl rfl (IntWalk.i64_in _ (by first | omega | (simp only [List.length_set, List.length_append, List.length_take, List.length_drop, List.length_replicate, List.length_cons, List.length_nil, decs_length, List.length_map]; omega))) ?_; refine W_norm rfl ?_)
          )
          | (refine K_load ?_; first
            | (refine W_loadC hs 3 rfl rfl rfl ?_; refine W_norm rfl ?_)
          )
        )
        | (refine K_code ?_; first
          | refine W_seq ?_
          | refine W_ops ?_
          | (refine W_cond rfl (fun hc => ?_) (fun hc => ?_) <;> (try rw [hc]) <;> (try simp only [decide_eq_true_eq, decide_eq_false_iff_not, beq_iff_eq, beq_eq_false_iff_ne, bne_iff_ne, bne_eq_false_iff_eq, Bool.not_eq_true', Bool.not_eq_false', Int.not_lt, Int.not_le, ne_eq, reduceCtorEq, not_true_eq_false, not_false_eq_true, Decidable.not_not] at hc) <;> (try (exfalso; omega)) <;> (try refine W_norm rfl ?_))
          | refine W_exit ?_
        )
        | refine seqK_n ?_
        | refine seqK_x ?_
        | refine blockK_e ?_
        | refine invK_x ?_
        | (refine fnK_n rfl ?_; try dsimp only [gd_z, gd_s]))
      obtain rfl : k = z.h.toNat := by omega
      exact ⟨_, rfl, rfl, F, f, hn, hF, (hs.drop 3).drop 3⟩

theorem w19 {R : Ro} {M : List Hp} {h : Heap} {pid wd : Nat} {Z b : Rc} {rv : SV} {H : List Hc} {c : Hp} (hs : Sep R (pgO pid Z rv :: c :: hpOf H :: M) h) (hn : NsO cellE 34 35 rv H c)
    (hZ : PageR Z wd H.length) (hA : AllW (H.map Hd.L) wd) (hp : RcI b) :
    Wc DD 19 [.sc (.ptr pid 0), .agg (rcE.enc b)] h fun v h' => v = .tup [] ∧ ∃ H' c', NsO cellE 34 35 rv H' c' ∧ H'.map Hd.L = borderR Z (H.map Hd.L) b ∧ Sep R (pgO pid Z rv :: c' :: hpOf H' :: M) h' := by
  have hin := crop_in hZ hp
  obtain ⟨hZ0, hw1, hw2, hH⟩ := hZ
  have hZI : RcI Z := by
    subst hZ0
    refine ⟨?_, ?_, ?_, ?_⟩ <;> (unfold InI; simp only; omega)
  refine W_enter d19 ?_
  show W _ (.code m19_code [.sc (.ptr pid 0), .agg (rcE.enc b), undefA, undefA, undefA, undefA, undefA, undefA, undefA, undefA, undefA, undefA, undefA, undefA, undefA, undefA, undefA, undefA, undefA] _) _
  unfold m19_code
  repeat' (first
    | (refine K_ops ?_; first
      | refine W_fastB rfl ?_
      | refine W_nil ?_
      | (refine K_call ?_; first
        | (refine W_callsN 13 rfl (w13 hp hZI) rfl ?_; rintro _ h3 ⟨rfl, t⟩; have hs := hs.call t; try simp only [cell_back, attr_back, List.set_cons_zero, List.set_cons_succ, List.eraseIdx_cons_succ, List.eraseIdx_zero, List.tail_cons, List.nil_append, List.cons_append] at hs; refine W_norm rfl ?_)
      )
      | (refine K_load ?_; first
        | (refine W_loadCA hs 0 rfl rfl rfl ?_; refine W_norm rfl ?_)
        | (refine W_loadC hs 1 rfl rfl rfl ?_; refine W_norm rfl ?_)
        | (refine W_loadCA hs 1 rfl rfl rfl ?_; refine W_norm rfl ?_)
        | (refine W_loadCA hs 2 rfl rfl rfl ?_; refine W_norm rfl ?_)
      )
      | (refine K_store ?_; first
        | (refine W_storeC hs 0 rfl rfl rfl rfl (by first | decide | assumption) rfl rfl ?_; intro _ hs; try simp only [cell_back, attr_back, List.set_cons_zero, List.set_cons_succ, List.eraseIdx_cons_succ, List.eraseIdx_zero, List.tail_cons, List.nil_append, List.cons_append] at hs; refine W_norm rfl ?_)
      )
      | (refine W_allocS hs ?_; intro al _ hs; try simp only [cell_back, attr_back, List.set_cons_zero, List.set_cons_succ, List.eraseIdx_cons_succ, List.eraseIdx_zero, List.tail_cons, List.nil_append, List.cons_append] at hs; refine W_norm rfl ?_)
      | (refine W_boxS hs rfl rfl ?_; intro bx _ hs; try simp only [cell_back, attr_back, List.set_cons_zero, List.set_cons_succ, List.eraseIdx_cons_succ, List.eraseIdx_zero, List.tail_cons, List.nil_append, List.cons_append] at hs; refine W_norm rfl ?_)
      | (refine W_buildN rfl ?_; refine W_norm rfl ?_)
    )
    | (refine K_code ?_; first
      | refine W_seq ?_
      | refine W_ops ?_
      | (refine W_cond rfl (fun hc => ?_) (fun hc => ?_) <;> (try rw [hc]) <;> (try simp only [decide_eq_true_eq, decide_eq_false_iff_not, beq_iff_eq, beq_eq_false_iff_ne, bne_iff_ne, bne_eq_false_iff_eq, Bool.not_eq_true', Bool.not_eq_false', Int.not_lt, Int.not_le, ne_eq, reduceCtorEq, not_true_eq_false, not_false_eq_true, Decidable.not_not] at hc) <;> (try (exfalso; omega)) <;> (try refine W_norm rfl ?_))
      | refine W_skip ?_
      | refine W_draws ?_
    )
    | refine W_dstep rfl ?_
    | refine ⟨rfl, fun rc hrec => ?_⟩
    | refine seqK_n ?_)
  · replace hs : Sep R ([(al, .cells 34 .own (cellE.enc ⟨9474, 0, attr0⟩))] :: [(bx, .cells 37 .own (rcE.enc b))] :: pgO pid Z rv :: c :: hpOf H :: M) _ := hs
    have hs2 : Sep R (pgO pid Z rv :: c :: hpOf H :: [(al, .cells 34 .own (cellE.enc ⟨9474, 0, attr0⟩))] :: [(bx, .cells 37 .own (rcE.enc b))] :: M) _ := hs.reord (fun a => by simp only [List.flatten_cons, List.flatten_nil, List.count_append, List.count_nil, hpOf_append, hpOf_cons, hpOf_nil, List.append_nil, List.eraseIdx_cons_succ, List.eraseIdx_zero, List.tail_cons] <;> omega)
    repeat' (first
      | (refine K_ops ?_; first
        | refine W_nil ?_
        | (refine K_call ?_; first
          | (refine W_callsN 35 rfl (w35 (z := cropR b Z) (C := ⟨9474, 0, attr0⟩) hs2 hn hin hA hw2 hH) rfl ?_; rintro _ h6 ⟨rfl, G2, g2, hn2, hG2, hs⟩; refine W_norm rfl ?_)
        )
      )
      | refine ⟨rfl, fun rc hrec => ?_⟩
      | (refine W_dnilS (by simp only [List.reverse_cons, List.reverse_nil, List.nil_append, List.cons_append]; rfl) (by repeat' first | exact CL_nil _ _ | refine CL_skip rfl ?_ | refine CL_load (by assumption) rfl (by first | exact trivial | (repeat' first | exact trivial | refine ⟨⟨_, rfl, (by refine (congrArg (fun x => Heap.get x _) (RecIs.hh (by assumption))).trans ?_; first | rfl | exact PtR.same_get (by assumption) (by assumption) (by assumption) | exact Sep.same_get (by assumption) (by assumption) 0 0 rfl rfl | exact Sep.same_get (by assumption) (by assumption) 0 1 rfl rfl | exact Sep.same_get (by assumption) (by assumption) 0 2 rfl rfl | exact Sep.same_get (by assumption) (by assumption) 0 3 rfl rfl | exact Sep.same_get (by assumption) (by assumption) 0 4 rfl rfl | exact Sep.same_get (by assumption) (by assumption) 0 5 rfl rfl | exact Sep.same_get (by assumption) (by assumption) 1 0 rfl rfl | exact Sep.same_get (by assumption) (by assumption) 1 1 rfl rfl | exact Sep.same_get (by assumption) (by assumption) 1 2 rfl rfl | exact Sep.same_get (by assumption) (by assumption) 1 3 rfl rfl | exact Sep.same_get (by assumption) (by assumption) 1 4 rfl rfl | exact Sep.same_get (by assumption) (by assumption) 1 5 rfl rfl | exact Sep.same_get (by assumption) (by assumption) 2 0 rfl rfl | exact Sep.same_get (by assumption) (by assumption) 2 1 rfl rfl | exact Sep.same_get (by assumption) (by assumption) 2 2 rfl rfl | exact Sep.same_get (by assumption) (by assumption) 2 3 rfl rfl | exact Sep.same_get (by assumption) (by assumption) 2 4 rfl rfl | exact Sep.same_get (by assumption) (by assumption) 2 5 rfl rfl | exact Sep.same_get (by assumption) (by assumption) 3 0 rfl rfl | exact Sep.same_get (by assumption) (by assumption) 3 1 rfl rfl | exact Sep.same_get (by assumption) (by assumption) 3 2 rfl rfl | exact Sep.same_get (by assumption) (by assumption) 3 3 rfl rfl | exact Sep.same_get (by assumption) (by assumption) 3 4 rfl rfl | exact Sep.same_get (by assumption) (by assumption) 3 5 rfl rfl | exact Sep.same_get (by assumption) (by assumption) 4 0 rfl rfl | exact Sep.same_get (by assumption) (by assumption) 4 1 rfl rfl | exact Sep.same_get (by assumption) (by assumption) 4 2 rfl rfl | exact Sep.same_get (by assumption) (by assumption) 4 3 rfl rfl | exact Sep.same_get (by assumption) (by assumption) 4 4 rfl rfl | exact Sep.same_get (by assumption) (by assumption) 4 5 rfl rfl | exact Sep.same_get (by assumption) (by assumption) 5 0 rfl rfl | exact Sep.same_get (by assumption) (by assumption) 5 1 rfl rfl | exact Sep.same_get (by assumption) (by assumption) 5 2 rfl rfl | exact Sep.same_get (by assumption) (by assumption) 5 3 rfl rfl | exact Sep.same_get (by assumption) (by assumption) 5 4 rfl rfl | exact Sep.same_get (by assumption) (by assumption) 5 5 rfl rfl)⟩, ?_⟩)) (by first | exact trivial | (repeat' first | exact trivial | refine ⟨⟨_, rfl, (by refine (congrArg (fun x => Heap.get x _) (RecIs.hh' (by assumption))).trans ?_; first | rfl | exact PtR.same_get (by assumption) (by assumption) (by assumption) | exact Sep.same_get (by assumption) (by assumption) 0 0 rfl rfl | exact Sep.same_get (by assumption) (by assumption) 0 1 rfl rfl | exact Sep.same_get (by assumption) (by assumption) 0 2 rfl rfl | exact Sep.same_get (by assumption) (by assumption) 0 3 rfl rfl | exact Sep.same_get (by assumption) (by assumption) 0 4 rfl rfl | exact Sep.same_get (by assumption) (by assumption) 0 5 rfl rfl | exact Sep.same_get (by assumption) (by assumption) 1 0 rfl rfl | exact Sep.same_get (by assumption) (by assumption) 1 1 rfl rfl | exact Sep.same_get (by assumption) (by assumption) 1 2 rfl rfl | exact Sep.same_get (by assumption) (by assumption) 1 3 rfl rfl | exact Sep.same_get (by assumption) (by assumption) 1 4 rfl rfl | exact Sep.same_get (by assumption) (by assumption) 1 5 rfl rfl | exact Sep.same_get (by assumption) (by assumption) 2 0 rfl rfl | exact Sep.same_get (by assumption) (by assumption) 2 1 rfl rfl | exact Sep.same_get (by assumption) (by assumption) 2 2 rfl rfl | exact Sep.same_get (by assumption) (by assumption) 2 3 rfl rfl | exact Sep.same_get (by assumption) (by assumption) 2 4 rfl rfl | exact Sep.same_get (by assumption) (by assumption) 2 5 rfl rfl | exact Sep.same_get (by assumption) (by assumption) 3 0 rfl rfl | exact Sep.same_get (by assumption) (by assumption) 3 1 rfl rfl | exact Sep.same_get (by assumption) (by assumption) 3 2 rfl rfl | exact Sep.same_get (by assumption) (by assumption) 3 3 rfl rfl | exact Sep.same_get (by assumption) (by assumption) 3 4 rfl rfl | exact Sep.same_get (by assumption) (by assumption) 3 5 rfl rfl | exact Sep.same_get (by assumption) (by assumption) 4 0 rfl rfl | exact Sep.same_get (by assumption) (by assumption) 4 1 rfl rfl | exact Sep.same_get (by assumption) (by assumption) 4 2 rfl rfl | exact Sep.same_get (by assumption) (by assumption) 4 3 rfl rfl | exact Sep.same_get (by assumption) (by assumption) 4 4 rfl rfl | exact Sep.same_get (by assumption) (by assumption) 4 5 rfl rfl | exact Sep.same_get (by assumption) (by assumption) 5 0 rfl rfl | exact Sep.same_get (by assumption) (by assumption) 5 1 rfl rfl | exact Sep.same_get (by assumption) (by assumption) 5 2 rfl rfl | exact Sep.same_get (by assumption) (by assumption) 5 3 rfl rfl | exact Sep.same_get (by assumption) (by assumption) 5 4 rfl rfl | exact Sep.same_get (by assumption) (by assumption) 5 5 rfl rfl)⟩, ?_⟩)) ?_) ?_)
      | (refine fnK_n rfl ?_; try dsimp only [gd_z, gd_s]))
    refine ⟨_, rfl, rfl, G2, g2, hn2, ?_, (hs.drop 3).drop 3⟩
    rw [hG2]
    unfold borderR bordC
    rw [if_pos hc]
  · replace hs : Sep R ([(al, .cells 34 .own (cellE.enc ⟨9472, 0, attr0⟩))] :: [(bx, .cells 37 .own (rcE.enc b))] :: pgO pid Z rv :: c :: hpOf H :: M) _ := hs
    have hs2 : Sep R (pgO pid Z rv :: c :: hpOf H :: [(al, .cells 34 .own (cellE.enc ⟨9472, 0, attr0⟩))] :: [(bx, .cells 37 .own (rcE.enc b))] :: M) _ := hs.reord (fun a => by simp only [List.flatten_cons, List.flatten_nil, List.count_append, List.count_nil, hpOf_append, hpOf_cons, hpOf_nil, List.append_nil, List.eraseIdx_cons_succ, List.eraseIdx_zero, List.tail_cons] <;> omega)
    repeat' (first
      | (refine K_ops ?_; first
        | refine W_nil ?_
        | (refine K_call ?_; first
          | (refine W_callsN 35 rfl (w35 (z := cropR b Z) (C := ⟨9472, 0, attr0⟩) hs2 hn hin hA hw2 hH) rfl ?_; rintro _ h6 ⟨rfl, G2, g2, hn2, hG2, hs⟩; refine W_norm rfl ?_)
        )
      )
      | refine ⟨rfl, fun rc hrec => ?_⟩
      | (refine W_dnilS (by simp only [List.reverse_cons, List.reverse_nil, List.nil_append, List.cons_append]; rfl) (by repeat' first | exact CL_nil _ _ | refine CL_skip rfl ?_ | refine CL_load (by assumption) rfl (by first | exact trivial | (repeat' first | exact trivial | refine ⟨⟨_, rfl, (by refine (congrArg (fun x => Heap.get x _) (RecIs.hh (by assumption))).trans ?_; first | rfl | exact PtR.same_get (by assumption) (by assumption) (by assumption) | exact Sep.same_get (by assumption) (by assumption) 0 0 rfl rfl | exact Sep.same_get (by assumption) (by assumption) 0 1 rfl rfl | exact Sep.same_get (by assumption) (by assumption) 0 2 rfl rfl | exact Sep.same_get (by assumption) (by assumption) 0 3 rfl rfl | exact Sep.same_get (by assumption) (by assumption) 0 4 rfl rfl | exact Sep.same_get (by assumption) (by assumption) 0 5 rfl rfl | exact Sep.same_get (by assumption) (by assumption) 1 0 rfl rfl | exact Sep.same_get (by assumption) (by assumption) 1 1 rfl rfl | exact Sep.same_get (by assumption) (by assumption) 1 2 rfl rfl | exact Sep.same_get (by assumption) (by assumption) 1 3 rfl rfl | exact Sep.same_get (by assumption) (by assumption) 1 4 rfl rfl | exact Sep.same_get (by assumption) (by assumption) 1 5 rfl rfl | exact Sep.same_get (by assumption) (by assumption) 2 0 rfl rfl | exact Sep.same_get (by assumption) (by assumption) 2 1 rfl rfl | exact Sep.same_get (by assumption) (by assumption) 2 2 rfl rfl | exact Sep.same_get (by assumption) (by assumption) 2 3 rfl rfl | exact Sep.same_get (by assumption) (by assumption) 2 4 rfl rfl | exact Sep.same_get (by assumption) (by assumption) 2 5 rfl rfl | exact Sep.same_get (by assumption) (by assumption) 3 0 rfl rfl | exact Sep.same_get (by assumption) (by assumption) 3 1 rfl rfl | exact Sep.same_get (by assumption) (by assumption) 3 2 rfl rfl | exact Sep.same_get (by assumption) (by assumption) 3 3 rfl rfl | exact Sep.same_get (by assumption) (by assumption) 3 4 rfl rfl | exact Sep.same_get (by assumption) (by assumption) 3 5 rfl rfl | exact Sep.same_get (by assumption) (by assumption) 4 0 rfl rfl | exact Sep.same_get (by assumption) (by assumption) 4 1 rfl rfl | exact Sep.same_get (by assumption) (by assumption) 4 2 rfl rfl | exact Sep.same_get (by assumption) (by assumption) 4 3 rfl rfl | exact Sep.same_get (by assumption) (by assumption) 4 4 rfl rfl | exact Sep.same_get (by assumption) (by assumption) 4 5 rfl rfl | exact Sep.same_get (by assumption) (by assumption) 5 0 rfl rfl | exact Sep.same_get (by assumption) (by assumption) 5 1 rfl rfl | exact Sep.same_get (by assumption) (by assumption) 5 2 rfl rfl | exact Sep.same_get (by assumption) (by assumption) 5 3 rfl rfl | exact Sep.same_get (by assumption) (by assumption) 5 4 rfl rfl | exact Sep.same_get (by assumption) (by assumption) 5 5 rfl rfl)⟩, ?_⟩)) (by first | exact trivial | (repeat' first | exact trivial | refine ⟨⟨_, rfl, (by refine (congrArg (fun x => Heap.get x _) (RecIs.hh' (by assumption))).trans ?_; first | rfl | exact PtR.same_get (by assumption) (by assumption) (by assumption) | exact Sep.same_get (by assumption) (by assumption) 0 0 rfl rfl | exact Sep.same_get (by assumption) (by assumption) 0 1 rfl rfl | exact Sep.same_get (by assumption) (by assumption) 0 2 rfl rfl | exact Sep.same_get (by assumption) (by assumption) 0 3 rfl rfl | exact Sep.same_get (by assumption) (by assumption) 0 4 rfl rfl | exact Sep.same_get (by assumption) (by assumption) 0 5 rfl rfl | exact Sep.same_get (by assumption) (by assumption) 1 0 rfl rfl | exact Sep.same_get (by assumption) (by assumption) 1 1 rfl rfl | exact Sep.same_get (by assumption) (by assumption) 1 2 rfl rfl | exact Sep.same_get (by assumption) (by assumption) 1 3 rfl rfl | exact Sep.same_get (by assumption) (by assumption) 1 4 rfl rfl | exact Sep.same_get (by assumption) (by assumption) 1 5 rfl rfl | exact Sep.same_get (by assumption) (by assumption) 2 0 rfl rfl | exact Sep.same_get (by assumption) (by assumption) 2 1 rfl rfl | exact Sep.same_get (by assumption) (by assumption) 2 2 rfl rfl | exact Sep.same_get (by assumption) (by assumption) 2 3 rfl rfl | exact Sep.same_get (by assumption) (by assumption) 2 4 rfl rfl | exact Sep.same_get (by assumption) (by assumption) 2 5 rfl rfl | exact Sep.same_get (by assumption) (by assumption) 3 0 rfl rfl | exact Sep.same_get (by assumption) (by assumption) 3 1 rfl rfl | exact Sep.same_get (by assumption) (by assumption) 3 2 rfl rfl | exact Sep.same_get (by assumption) (by assumption) 3 3 rfl rfl | exact Sep.same_get (by assumption) (by assumption) 3 4 rfl rfl | exact Sep.same_get (by assumption) (by assumption) 3 5 rfl rfl | exact Sep.same_get (by assumption) (by assumption) 4 0 rfl rfl | exact Sep.same_get (by assumption) (by assumption) 4 1 rfl rfl | exact Sep.same_get (by assumption) (by assumption) 4 2 rfl rfl | exact Sep.same_get (by assumption) (by assumption) 4 3 rfl rfl | exact Sep.same_get (by assumption) (by assumption) 4 4 rfl rfl | exact Sep.same_get (by assumption) (by assumption) 4 5 rfl rfl | exact Sep.same_get (by assumption) (by assumption) 5 0 rfl rfl | exact Sep.same_get (by assumption) (by assumption) 5 1 rfl rfl | exact Sep.same_get (by assumption) (by assumption) 5 2 rfl rfl | exact Sep.same_get (by assumption) (by assumption) 5 3 rfl rfl | exact Sep.same_get (by assumption) (by assumption) 5 4 rfl rfl | exact Sep.same_get (by assumption) (by assumption) 5 5 rfl rfl)⟩, ?_⟩)) ?_) ?_)
      | (refine fnK_n rfl ?_; try dsimp only [gd_z, gd_s]))
    refine ⟨_, rfl, rfl, G2, g2, hn2, ?_, (hs.drop 3).drop 3⟩
    rw [hG2]
    unfold borderR bordC
    rw [if_neg hc]
end Go.Proofs.YtfmldkjidfigbaaDoor
