/- A builder of strings, and a row's text. -/
import Derived.Test.YtbkhjpclnfljbaaDoorJxW23utf
set_option linter.unusedSimpArgs false
set_option linter.unusedVariables false
set_option maxHeartbeats 1000000
set_option maxRecDepth 100000
namespace Go.Proofs.YtbkhjpclnfljbaaDoor
open Go Go.Jx

theorem bytes_ints (s : List UInt8) : bytesOfCells ((intsB s).flatMap (intEl .u8).enc) = some s := by
  have := bytes_cells s
  unfold intsB
  rw [List.flatMap_map]
  exact this


theorem w57 {R : Ro} {M : List Hp} {h : Heap} {v : SV} {L : List Int} {c : Hp} {r : Int} (hs : Sep R (c :: M) h) (hv : AccS (intEl .u8) 5 v L c) (hl : L.length ≤ 1000000000) (hr : -2147483648 ≤ r ∧ r ≤ 2147483647) :
    Wc DD 57 [.sc v, .sc (.int .i32 r)] h fun w h' => ∃ u c', w = .sc u ∧ AccS (intEl .u8) 5 u (L ++ intsB (utf8 r)) c' ∧ Sep R (c' :: M) h' := by
  by_cases hneg : r < 0
  · have hu : IntKind.u32.wrap r = r + 4294967296 := by rw [IntKind.wrap_u32]; omega
    refine W_enter d57 ?_
    show W _ (.code m57_code [.sc v, .sc (.int .i32 r), undefA, undefA, undefA, undefA, undefA, undefA, undefA, undefA, undefA, undefA, undefA, undefA, undefA, undefA] _) _
    unfold m57_code
    repeat' (first
      | (refine K_ops ?_; first
        | refine W_fastB rfl ?_
        | refine W_nil ?_
        | (refine W_convint rfl hu ?_; refine W_norm rfl ?_)
        | (refine K_call ?_; first
          | (refine W_callsN 64 rfl (w64 hs hv hl hr (by omega)) rfl ?_; rintro _ h2 ⟨u, c', rfl, ha, hs⟩; refine W_norm rfl ?_)
        )
      )
      | (refine K_code ?_; first
        | refine W_seq ?_
        | refine W_ops ?_
        | (refine W_cond rfl (fun hc => ?_) (fun hc => ?_) <;> (try rw [hc]) <;> (try simp only [decide_eq_true_eq, decide_eq_false_iff_not, beq_iff_eq, beq_eq_false_iff_ne, bne_iff_ne, bne_eq_false_iff_eq, Bool.not_eq_true', Bool.not_eq_false', Int.not_lt, Int.not_le, ne_eq, reduceCtorEq, not_true_eq_false, not_false_eq_true, Decidable.not_not] at hc) <;> (try (exfalso; omega)) <;> (try refine W_norm rfl ?_))
        | refine W_skip ?_
        | refine W_ret ?_
      )
      | refine seqK_n ?_
      | (refine fnK_r rfl ?_; try dsimp only [gd_z, gd_s]))
    exact ⟨_, rfl, _, _, rfl, ha, hs⟩
  · have hu : IntKind.u32.wrap r = r := by rw [IntKind.wrap_u32]; omega
    refine W_enter d57 ?_
    show W _ (.code m57_code [.sc v, .sc (.int .i32 r), undefA, undefA, undefA, undefA, undefA, undefA, undefA, undefA, undefA, undefA, undefA, undefA, undefA, undefA] _) _
    unfold m57_code
    repeat' (first
      | (refine K_ops ?_; first
        | refine W_fastB rfl ?_
        | refine W_nil ?_
        | (refine W_convint rfl hu ?_; refine W_norm rfl ?_)
        | (refine K_call ?_; first
          | (refine W_callsN 64 rfl (w64 hs hv hl hr (by omega)) rfl ?_; rintro _ h2 ⟨u, c', rfl, ha, hs⟩; refine W_norm rfl ?_)
        )
        | (refine K_bslice ?_; first
          | (refine W_appB1 (intEl .u8) hs 0 rfl rfl rfl (by assumption) rfl rfl rfl ⟨by decide, (by first | omega | (simp only [List.length_set, List.length_append, List.length_take, List.length_drop, List.length_replicate, List.length_cons, List.length_nil, decs_length, List.length_map]; omega))⟩ ?_; clear hs; intro _ _ _ _ _ hs; try simp only [cell_back, attr_back, List.set_cons_zero, List.set_cons_succ, List.eraseIdx_cons_succ, List.eraseIdx_zero, List.tail_cons, List.nil_append, List.cons_append] at hs; refine W_norm rfl ?_)
        )
        | (refine W_convint rfl (IntWalk.u8_in _ (by omega)) ?_; refine W_norm rfl ?_)
      )
      | (refine K_code ?_; first
        | refine W_seq ?_
        | refine W_ops ?_
        | (refine W_cond rfl (fun hc => ?_) (fun hc => ?_) <;> (try rw [hc]) <;> (try simp only [decide_eq_true_eq, decide_eq_false_iff_not, beq_iff_eq, beq_eq_false_iff_ne, bne_iff_ne, bne_eq_false_iff_eq, Bool.not_eq_true', Bool.not_eq_false', Int.not_lt, Int.not_le, ne_eq, reduceCtorEq, not_true_eq_false, not_false_eq_true, Decidable.not_not] at hc) <;> (try (exfalso; omega)) <;> (try refine W_norm rfl ?_))
        | refine W_skip ?_
        | refine W_ret ?_
      )
      | refine seqK_n ?_
      | refine seqK_r ?_
      | (refine fnK_r rfl ?_; try dsimp only [gd_z, gd_s]))
    · rename_i ha'
      refine ⟨_, rfl, _, _, rfl, ?_, hs⟩
      rw [utf8_1 (by omega)]; exact ha'
    · exact ⟨_, rfl, _, _, rfl, ha, hs⟩



theorem w52 {R : Ro} {M : List Hp} {h : Heap} {id : Nat} {p v : SV} (hs : Sep R ([(id, .cells 83 .own [p, v])] :: M) h) (hp : p = .nilp ∨ p = .ptr id 0) :
    Wc DD 52 [.sc (.ptr id 0)] h fun w h' => w = .tup [] ∧ Sep R ([(id, .cells 83 .own [.ptr id 0, v])] :: M) h' := by
  rcases hp with rfl | rfl
  · refine W_enter d52 ?_
    show W _ (.code m52_code [.sc (.ptr id 0), undefA, undefA, undefA, undefA, undefA, undefA, undefA, undefA, undefA, undefA, undefA, undefA, undefA, undefA, undefA, undefA, undefA, undefA, undefA] _) _
    unfold m52_code
    repeat' (first
      | (refine K_ops ?_; first
        | refine W_fastB rfl ?_
        | refine W_nil ?_
        | (refine K_bin ?_; first
          | (refine W_nil_ptr_t rfl rfl rfl ?_; refine W_norm rfl ?_)
        )
        | (refine K_load ?_; first
          | (refine W_loadC hs 0 rfl rfl rfl ?_; refine W_norm rfl ?_)
        )
        | (refine K_store ?_; first
          | (refine W_storeC hs 0 rfl rfl rfl rfl (by first | decide | assumption) rfl rfl ?_; clear hs; intro _ hs; try simp only [cell_back, attr_back, List.set_cons_zero, List.set_cons_succ, List.eraseIdx_cons_succ, List.eraseIdx_zero, List.tail_cons, List.nil_append, List.cons_append] at hs; refine W_norm rfl ?_)
        )
        | (refine W_ptrUnsafe hs 0 rfl rfl rfl ?_; refine W_norm rfl ?_)
        | (refine W_unsafePtr hs 0 rfl rfl rfl ?_; refine W_norm rfl ?_)
      )
      | (refine K_code ?_; first
        | refine W_seq ?_
        | refine W_ops ?_
        | refine W_cond_t rfl ?_
      )
      | refine seqK_n ?_
      | (refine fnK_n rfl ?_; try dsimp only [gd_z, gd_s]))
    exact ⟨_, rfl, rfl, hs⟩
  · refine W_enter d52 ?_
    show W _ (.code m52_code [.sc (.ptr id 0), undefA, undefA, undefA, undefA, undefA, undefA, undefA, undefA, undefA, undefA, undefA, undefA, undefA, undefA, undefA, undefA, undefA, undefA, undefA] _) _
    unfold m52_code
    repeat' (first
      | (refine K_ops ?_; first
        | refine W_fastB rfl ?_
        | refine W_nil ?_
        | (refine K_bin ?_; first
          | (refine W_nil_ptr_f rfl rfl rfl ?_; refine W_norm rfl ?_)
          | (refine W_nePtrSame rfl rfl rfl ?_; refine W_norm rfl ?_)
        )
        | (refine K_load ?_; first
          | (refine W_loadC hs 0 rfl rfl rfl ?_; refine W_norm rfl ?_)
        )
      )
      | (refine K_code ?_; first
        | refine W_seq ?_
        | refine W_ops ?_
        | refine W_cond_f rfl ?_
        | refine W_skip ?_
      )
      | refine seqK_n ?_
      | (refine fnK_n rfl ?_; try dsimp only [gd_z, gd_s]))
    exact ⟨_, rfl, rfl, hs⟩


/-- A builder's object and what it has. -/
def Bld (id : Nat) (p v : SV) (s : List UInt8) (c : Hp) : Prop := (p = .nilp ∨ p = .ptr id 0) ∧ AccS (intEl .u8) 5 v (intsB s) c ∧ (s = [] → v = .nils)
theorem utf8_ne (r : Int) : utf8 r ≠ [] := by
  intro h
  have h1 := congrArg List.length h
  unfold utf8 Utf8.encode at h1
  simp only at h1
  generalize (if Utf8.valid r = true then r.toNat else Utf8.runeError) = c at h1
  by_cases g1 : c < 128
  · rw [if_pos g1] at h1; simp at h1
  rw [if_neg g1] at h1
  by_cases g2 : c < 2048
  · rw [if_pos g2] at h1; simp at h1
  rw [if_neg g2] at h1
  by_cases g3 : c < 65536
  · rw [if_pos g3] at h1; simp at h1
  · rw [if_neg g3] at h1; simp at h1


theorem w50 {R : Ro} {M : List Hp} {h : Heap} {id : Nat} {p v : SV} {s : List UInt8} {c : Hp} {r : Int} (hs : Sep R ([(id, .cells 83 .own [p, v])] :: c :: M) h) (hb : Bld id p v s c) (hl : s.length ≤ 900000000) (hr : -2147483648 ≤ r ∧ r ≤ 2147483647) :
    Wc DD 50 [.sc (.ptr id 0), .sc (.int .i32 r)] h fun w h' => ∃ x, w = .tup [x, .sc .nili] ∧ ∃ p' v' c', Bld id p' v' (s ++ utf8 r) c' ∧ Sep R ([(id, .cells 83 .own [p', v'])] :: c' :: M) h' := by
  obtain ⟨h1, h2, h3⟩ := hb
  have hln := h2.ln
  have hil := intsB_length s
  have hul := utf8_length r
  refine W_enter d50 ?_
  show W _ (.code m50_code [.sc (.ptr id 0), .sc (.int .i32 r), undefA, undefA, undefA, undefA, undefA, undefA, undefA, undefA, undefA, undefA, undefA, undefA, undefA, undefA, undefA, undefA, undefA, undefA, undefA, undefA, undefA, undefA, undefA, undefA, undefA, undefA, undefA, undefA] _) _
  unfold m50_code
  repeat' (first
    | (refine K_ops ?_; first
      | refine W_fastB rfl ?_
      | refine W_nil ?_
      | (refine K_call ?_; first
        | (refine W_callsN 52 rfl (w52 hs h1) rfl ?_; rintro _ h4 ⟨rfl, hs⟩; refine W_norm rfl ?_)
        | (refine W_callsN 57 rfl (w57 (hs.front 1 rfl) h2 (by omega) hr) rfl ?_; rintro _ h4 ⟨u, c', rfl, ha, t⟩; replace hs := Sep.back (M := [(id, .cells 83 .own [.ptr id 0, v])] :: c :: M) 1 t rfl; simp only [List.set_cons_succ, List.set_cons_zero] at hs; clear t; refine W_norm rfl ?_)
      )
      | (refine W_lenL rfl (by first | assumption | exact SlR.ln (by assumption) | exact AccS.ln (by assumption) | exact OwnS.ln (by assumption) | exact VwO.ln (by assumption) | exact OwnP.ln (by assumption) | exact Len.sl) ?_; refine W_norm rfl ?_)
      | (refine K_bin ?_; first
        | (refine W_sub rfl rfl rfl ?_; refine W_norm rfl ?_)
      )
      | (refine K_load ?_; first
        | (refine W_loadC hs 0 rfl rfl rfl ?_; refine W_norm rfl ?_)
      )
      | (refine K_store ?_; first
        | (refine W_storeC hs 0 rfl rfl rfl rfl (by first | decide | assumption) rfl rfl ?_; clear hs; intro _ hs; try simp only [cell_back, attr_back, List.set_cons_zero, List.set_cons_succ, List.eraseIdx_cons_succ, List.eraseIdx_zero, List.tail_cons, List.nil_append, List.cons_append] at hs; refine W_norm rfl ?_)
      )
    )
    | (refine K_code ?_; first
      | refine W_seq ?_
      | refine W_ops ?_
      | refine W_ret ?_
    )
    | refine seqK_n ?_
    | (refine fnK_r rfl ?_; try dsimp only [gd_z, gd_s]))
  exact ⟨_, rfl, _, rfl, _, _, _, ⟨.inr rfl, by rw [intsB_append]; exact ha, fun hh => absurd (List.append_eq_nil_iff.1 hh).2 (utf8_ne r)⟩, hs⟩



theorem w40 {R : Ro} {M : List Hp} {h : Heap} {id : Nat} {p v : SV} {s : List UInt8} {c : Hp} (hs : Sep R ([(id, .cells 83 .own [p, v])] :: c :: M) h) (hb : Bld id p v s c) (hl : s.length ≤ 900000000) :
    Wc DD 40 [.sc (.ptr id 0)] h fun w h' => w = .sc (.str s) ∧ Sep R ([(id, .cells 83 .own [p, v])] :: M) h' := by
  obtain ⟨h1, h2, h3⟩ := hb
  have hil := intsB_length s
  by_cases h0 : s = []
  · obtain rfl := h3 h0
    subst h0
    have hln : Len .nils 0 := .inl ⟨rfl, .inl rfl⟩
    refine W_enter d40 ?_
    show W _ (.code m40_code [.sc (.ptr id 0), undefA, undefA, undefA, undefA, undefA, undefA, undefA, undefA, undefA, undefA, undefA, undefA, undefA] _) _
    unfold m40_code
    repeat' (first
      | (refine K_ops ?_; first
        | refine W_fastB rfl ?_
        | refine W_nil ?_
        | (refine W_lenL rfl (by first | assumption | exact SlR.ln (by assumption) | exact AccS.ln (by assumption) | exact OwnS.ln (by assumption) | exact VwO.ln (by assumption) | exact OwnP.ln (by assumption) | exact Len.sl) ?_; refine W_norm rfl ?_)
        | (refine K_load ?_; first
          | (refine W_loadC hs 0 rfl rfl rfl ?_; refine W_norm rfl ?_)
        )
        | (refine W_usliceN rfl ?_; refine W_norm rfl ?_)
        | (refine W_ustringN rfl rfl ?_; refine W_norm rfl ?_)
      )
      | (refine K_code ?_; first
        | refine W_seq ?_
        | refine W_ops ?_
        | refine W_ret ?_
        | refine W_draws ?_
      )
      | refine W_dstep rfl ?_
      | refine ⟨rfl, fun rc hrec => ?_⟩
      | (refine W_dnilS (by simp only [List.reverse_cons, List.reverse_nil, List.nil_append, List.cons_append]; rfl) (by repeat' first | exact CL_nil _ _ | refine CL_skip rfl ?_ | refine CL_load (by assumption) rfl (by first | exact trivial | (repeat' first | exact trivial | refine ⟨⟨_, rfl, (by refine (congrArg (fun x => Heap.get x _) (RecIs.hh (by assumption))).trans ?_; first | rfl | exact PtR.same_get (by assumption) (by assumption) (by assumption) | exact Sep.same_get (by assumption) (by assumption) 0 0 rfl rfl | exact Sep.same_get (by assumption) (by assumption) 0 1 rfl rfl | exact Sep.same_get (by assumption) (by assumption) 1 0 rfl rfl | exact Sep.same_get (by assumption) (by assumption) 1 1 rfl rfl)⟩, ?_⟩)) (by first | exact trivial | (repeat' first | exact trivial | refine ⟨⟨_, rfl, (by refine (congrArg (fun x => Heap.get x _) (RecIs.hh' (by assumption))).trans ?_; first | rfl | exact PtR.same_get (by assumption) (by assumption) (by assumption) | exact Sep.same_get (by assumption) (by assumption) 0 0 rfl rfl | exact Sep.same_get (by assumption) (by assumption) 0 1 rfl rfl | exact Sep.same_get (by assumption) (by assumption) 1 0 rfl rfl | exact Sep.same_get (by assumption) (by assumption) 1 1 rfl rfl)⟩, ?_⟩)) ?_) ?_)
      | refine seqK_n ?_
      | (refine fnK_r rfl ?_; try dsimp only [gd_z, gd_s]))
    exact ⟨_, rfl, rfl, hs.drop 1⟩
  · have h0' : 0 < (intsB s).length := by
      rw [hil]; exact List.length_pos_iff.2 h0
    obtain ⟨id2, kd, rfl, rfl, hk⟩ := h2.pos h0'
    have h0'' : (intsB s).length ≠ 0 := by omega
    have hlen : (((intsB s).length : Nat) : Int).toNat = ((intsB s).flatMap (intEl .u8).enc).length := by
      rw [El.flatMap_len]; simp [intEl]
    have hbs := bytes_ints s
    refine W_enter d40 ?_
    show W _ (.code m40_code [.sc (.ptr id 0), undefA, undefA, undefA, undefA, undefA, undefA, undefA, undefA, undefA, undefA, undefA, undefA, undefA] _) _
    unfold m40_code
    repeat' (first
      | (refine K_ops ?_; first
        | refine W_fastB rfl ?_
        | refine W_nil ?_
        | (refine W_lenL rfl (by first | assumption | exact SlR.ln (by assumption) | exact AccS.ln (by assumption) | exact OwnS.ln (by assumption) | exact VwO.ln (by assumption) | exact OwnP.ln (by assumption) | exact Len.sl) ?_; refine W_norm rfl ?_)
        | (refine K_load ?_; first
          | (refine W_loadC hs 0 rfl rfl rfl ?_; refine W_norm rfl ?_)
        )
        | (refine W_usliceS rfl (by first | assumption | omega) ?_; refine W_norm rfl ?_)
        | (refine W_ustringS hs 1 rfl rfl rfl (by first | decide | assumption) ⟨by omega, by omega⟩ (by assumption) (by assumption) ?_; intro _ hs; try simp only [cell_back, attr_back, List.set_cons_zero, List.set_cons_succ, List.eraseIdx_cons_succ, List.eraseIdx_zero, List.tail_cons, List.nil_append, List.cons_append] at hs; refine W_norm rfl ?_)
      )
      | (refine K_code ?_; first
        | refine W_seq ?_
        | refine W_ops ?_
        | refine W_ret ?_
        | refine W_draws ?_
      )
      | refine W_dstep rfl ?_
      | refine ⟨rfl, fun rc hrec => ?_⟩
      | (refine W_dnilS (by simp only [List.reverse_cons, List.reverse_nil, List.nil_append, List.cons_append]; rfl) (by repeat' first | exact CL_nil _ _ | refine CL_skip rfl ?_ | refine CL_load (by assumption) rfl (by first | exact trivial | (repeat' first | exact trivial | refine ⟨⟨_, rfl, (by refine (congrArg (fun x => Heap.get x _) (RecIs.hh (by assumption))).trans ?_; first | rfl | exact PtR.same_get (by assumption) (by assumption) (by assumption) | exact Sep.same_get (by assumption) (by assumption) 0 0 rfl rfl | exact Sep.same_get (by assumption) (by assumption) 0 1 rfl rfl | exact Sep.same_get (by assumption) (by assumption) 1 0 rfl rfl | exact Sep.same_get (by assumption) (by assumption) 1 1 rfl rfl)⟩, ?_⟩)) (by first | exact trivial | (repeat' first | exact trivial | refine ⟨⟨_, rfl, (by refine (congrArg (fun x => Heap.get x _) (RecIs.hh' (by assumption))).trans ?_; first | rfl | exact PtR.same_get (by assumption) (by assumption) (by assumption) | exact Sep.same_get (by assumption) (by assumption) 0 0 rfl rfl | exact Sep.same_get (by assumption) (by assumption) 0 1 rfl rfl | exact Sep.same_get (by assumption) (by assumption) 1 0 rfl rfl | exact Sep.same_get (by assumption) (by assumption) 1 1 rfl rfl)⟩, ?_⟩)) ?_) ?_)
      | refine seqK_n ?_
      | (refine fnK_r rfl ?_; try dsimp only [gd_z, gd_s]))
    exact ⟨_, rfl, rfl, hs⟩


theorem getD_mem' {β : Type} {G : List β} {i : Nat} {d : β} (h : i < G.length) : G.getD i d ∈ G := getD_mem h
def textB (L : List Cell) : List UInt8 := L.flatMap fun c => if c.w = 2 then [] else utf8 c.r
theorem textB_snoc (L : List Cell) (c : Cell) : textB (L ++ [c]) = textB L ++ (if c.w = 2 then [] else utf8 c.r) := by simp [textB]
theorem textB_length (L : List Cell) : (textB L).length ≤ 4 * L.length := by
  induction L with
  | nil => simp [textB]
  | cons c L ih =>
    have h1 := utf8_length c.r
    have : textB (c :: L) = (if c.w = 2 then [] else utf8 c.r) ++ textB L := rfl
    rw [this, List.length_append, List.length_cons]
    split
    · simp; omega
    · omega

end Go.Proofs.YtbkhjpclnfljbaaDoor
