/- Rows: what the functions of the package row do, each once. -/
import Derived.Test.YtbkhjpclnfljbaaDoorJxC23
import Derived.Test.YtbkhjpclnfljbaaDoorJxW8
set_option linter.unusedSimpArgs false
set_option linter.unusedVariables false
set_option maxHeartbeats 1000000
set_option maxRecDepth 100000
namespace Go.Proofs.YtbkhjpclnfljbaaDoor
open Go Go.Jx

def fillL {α : Type} (L : List α) (o n : Nat) (x : α) : List α := L.take o ++ List.replicate n x ++ L.drop (o + n)
theorem fillL_length {α : Type} {L : List α} {o n : Nat} {x : α} (h : o + n ≤ L.length) : (fillL L o n x).length = L.length := by
  unfold fillL
  simp only [List.length_append, List.length_take, List.length_replicate, List.length_drop]
  omega
theorem fillL_zero {α : Type} (L : List α) (o : Nat) (x : α) : fillL L o 0 x = L := by simp [fillL]
theorem fillL_succ {α : Type} {L : List α} {o k : Nat} {x : α} (h : o + k < L.length) : (fillL L o k x).set (o + k) x = fillL L o (k + 1) x := by
  apply List.ext_getElem?
  intro i
  unfold fillL
  rw [List.getElem?_set]
  simp only [List.getElem?_append, List.getElem?_take, List.length_append, List.length_take, List.length_replicate, List.getElem?_drop, List.getElem?_replicate, List.length_drop]
  grind








theorem w48 {v : SV} {L : List Cell} {h : Heap} (hv : SlR cellE (Now h) v L) (hl : L.length ≤ 100000) : Wc DD 48 [.sc v] h fun w h' => ∃ u c, w = .sc u ∧ AccS cellE 71 u L c ∧ Sep (Now h) [c] h' := by
  have hs := Sep.entry h
  have hv' := hv
  rcases hv' with ⟨rfl, rfl | ⟨b, rfl⟩⟩ | ⟨id, off, cap, t, kd, cs, rfl, h2, h3, h4⟩
  · refine W_enter d48 ?_
    show W _ (.code m48_code [.sc .nils, undefA, undefA, undefA, undefA, undefA, undefA, undefA] _) _
    unfold m48_code
    repeat' (first
      | (refine K_ops ?_; first
        | refine W_fastB rfl ?_
        | refine W_nil ?_
        | (refine K_bin ?_; first
          | (refine W_nilSl_t rfl rfl rfl ?_; refine W_norm rfl ?_)
        )
      )
      | (refine K_code ?_; first
        | refine W_seq ?_
        | refine W_ops ?_
        | refine W_cond_t rfl ?_
        | refine W_ret ?_
      )
      | refine seqK_n ?_
      | refine seqK_r ?_
      | (refine fnK_r rfl ?_; try dsimp only [gd_z, gd_s]))
    exact ⟨_, rfl, _, _, rfl, AccS.nil _, hs.nil⟩
  · refine W_enter d48 ?_
    show W _ (.code m48_code [.sc (.eslice b), undefA, undefA, undefA, undefA, undefA, undefA, undefA] _) _
    unfold m48_code
    repeat' (first
      | (refine K_ops ?_; first
        | refine W_fastB rfl ?_
        | refine W_nil ?_
        | (refine K_bin ?_; first
          | (refine W_nilSl_e rfl rfl rfl ?_; refine W_norm rfl ?_)
        )
        | (refine K_bslice ?_; first
          | (refine W_buildS0 cellE hs ?_; clear hs; intro _ _ _ _ hs; try simp only [cell_back, attr_back, List.set_cons_zero, List.set_cons_succ, List.eraseIdx_cons_succ, List.eraseIdx_zero, List.tail_cons, List.nil_append, List.cons_append] at hs; refine W_norm rfl ?_)
        )
        | (refine K_append ?_; first
          | (refine W_appS hs 0 rfl rfl (by assumption) rfl (by first | assumption | exact SlR.now hs (by assumption) | exact AccS.now (by assumption) hs (by simp) | exact OwnS.now (by assumption) hs (by simp)) rfl ⟨by decide, (by first | omega | (simp only [List.length_set, List.length_append, List.length_take, List.length_drop, List.length_replicate, List.length_cons, List.length_nil, decs_length, List.length_map]; omega))⟩ ?_; clear hs; intro _ _ _ _ hs; try simp only [cell_back, attr_back, List.set_cons_zero, List.set_cons_succ, List.eraseIdx_cons_succ, List.eraseIdx_zero, List.tail_cons, List.nil_append, List.cons_append] at hs; refine W_norm rfl ?_)
        )
      )
      | (refine K_code ?_; first
        | refine W_seq ?_
        | refine W_ops ?_
        | refine W_cond_f rfl ?_
        | refine W_skip ?_
        | refine W_ret ?_
      )
      | refine seqK_n ?_
      | (refine fnK_r rfl ?_; try dsimp only [gd_z, gd_s]))
    rename_i ha
    exact ⟨_, rfl, _, _, rfl, ha, hs⟩
  · refine W_enter d48 ?_
    show W _ (.code m48_code [.sc (.slice id off L.length cap), undefA, undefA, undefA, undefA, undefA, undefA, undefA] _) _
    unfold m48_code
    repeat' (first
      | (refine K_ops ?_; first
        | refine W_fastB rfl ?_
        | refine W_nil ?_
        | (refine K_bin ?_; first
          | (refine W_nilSl_f rfl rfl rfl ?_; refine W_norm rfl ?_)
        )
        | (refine K_bslice ?_; first
          | (refine W_buildS0 cellE hs ?_; clear hs; intro _ _ _ _ hs; try simp only [cell_back, attr_back, List.set_cons_zero, List.set_cons_succ, List.eraseIdx_cons_succ, List.eraseIdx_zero, List.tail_cons, List.nil_append, List.cons_append] at hs; refine W_norm rfl ?_)
        )
        | (refine K_append ?_; first
          | (refine W_appS hs 0 rfl rfl (by assumption) rfl (by first | assumption | exact SlR.now hs (by assumption) | exact AccS.now (by assumption) hs (by simp) | exact OwnS.now (by assumption) hs (by simp)) rfl ⟨by decide, (by first | omega | (simp only [List.length_set, List.length_append, List.length_take, List.length_drop, List.length_replicate, List.length_cons, List.length_nil, decs_length, List.length_map]; omega))⟩ ?_; clear hs; intro _ _ _ _ hs; try simp only [cell_back, attr_back, List.set_cons_zero, List.set_cons_succ, List.eraseIdx_cons_succ, List.eraseIdx_zero, List.tail_cons, List.nil_append, List.cons_append] at hs; refine W_norm rfl ?_)
        )
      )
      | (refine K_code ?_; first
        | refine W_seq ?_
        | refine W_ops ?_
        | refine W_cond_f rfl ?_
        | refine W_skip ?_
        | refine W_ret ?_
      )
      | refine seqK_n ?_
      | (refine fnK_r rfl ?_; try dsimp only [gd_z, gd_s]))
    rename_i ha
    exact ⟨_, rfl, _, _, rfl, ha, hs⟩






/-- Parted at a column. -/
def partL (L : List Cell) (x : Int) : List Cell :=
  if 0 < x ∧ x < L.length ∧ (L.getD x.toNat cell0).w = 2 then (L.set ((x - 1).toNat) (blankC (L.getD (x - 1).toNat cell0).a)).set x.toNat (blankC (L.getD x.toNat cell0).a) else L
theorem partL_length (L : List Cell) (x : Int) : (partL L x).length = L.length := by
  unfold partL
  split <;> simp


end Go.Proofs.YtbkhjpclnfljbaaDoor
