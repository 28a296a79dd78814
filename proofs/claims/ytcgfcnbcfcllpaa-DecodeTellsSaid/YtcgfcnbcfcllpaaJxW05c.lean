/- The reference's side: the shapes, whether bytes begin a character, its number. -/
import Derived.Test.YtcgfcnbcfcllpaaJxW05b
set_option linter.unusedSimpArgs false
set_option linter.unusedVariables false
set_option maxHeartbeats 1000000
set_option maxRecDepth 100000
namespace Go.Proofs.Ytcgfcnbcfcllpaa
open Go Go.Jx

/-- All that was made since: the i-th new object. -/
structure Made (h0 : Heap) (k : Nat) (L : List AO) (h : Heap) : Prop where
  n : h.n = h0.n + k
  len : L.length = k
  sub : Sub h0 h
  all : ∀ (i : Nat) (o : AO), L[i]? = some o → h.get (h0.n + i) = some o
theorem Made.start (h : Heap) : Made h 0 [] h := ⟨rfl, rfl, Sub.refl _, fun i o e => by simp at e⟩
theorem Made.push {h0 h : Heap} {k : Nat} {L : List AO} (m : Made h0 k L h) (a : AO) : Made h0 (k + 1) (L ++ [a]) (h.push a) := by
  refine ⟨by show h.n + 1 = _; rw [m.n]; rfl, by rw [List.length_append, m.len]; rfl, m.sub.trans (Sub.push _ _), fun i o e => ?_⟩
  by_cases hi : i < L.length
  · rw [List.getElem?_append_left hi] at e
    exact (Sub.push _ _).2 _ _ (m.all _ _ e)
  · rw [List.getElem?_append_right (by omega)] at e
    have h0 : i - L.length = 0 := by
      have := (List.getElem?_eq_some_iff.1 e).1
      simp at this; omega
    rw [h0] at e
    cases e
    have : i = k := by have := m.len; omega
    subst this
    rw [← m.n]
    exact Heap.get_push_new _ _
/-- Filling, with the list spelt at each step. -/
def fillN (cells : List SV) : List (Nat × Nat × AV) → Option (List SV)
  | [] => some cells
  | (off, size, v) :: r =>
    match cellsOfAV v with
    | none => none
    | some vs => if vs.length = size then (match (writeN cells off vs).bind normC with | some c => fillN c r | none => none) else none
theorem fillN_eq (l : List (Nat × Nat × AV)) (cells : List SV) : fillN cells l = fillA cells l := by
  induction l generalizing cells with
  | nil => rfl
  | cons p r ih =>
    obtain ⟨off, size, v⟩ := p
    unfold fillN fillA
    cases cellsOfAV v with
    | none => rfl
    | some vs =>
      simp only
      split
      · cases hw : writeN cells off vs with
        | none => rfl
        | some c => simp only [Option.bind_some, normC_eq, ih]
      · rfl
theorem W_buildSliceM {D : Nat → Option MFunc} {Q : Ex → List AV → Heap → Prop} {e : List AV} {h h0 : Heap} {m : Nat} {L : List AO} {dst : Option Nat} {r : List MI} {t : TypeId} {size len : Nat} {zero cs : List SV} {parts : List (Nat × Nat × Rnd)} (hm : Made h0 m L h)
    (hf : ((some (zerosA zero len)).bind normC).bind (fun z => fillN z (parts.map fun p => (p.1, p.2.1, rd e p.2.2))) = some cs)
    (k : ∀ h', Made h0 (m + 1) (L ++ [.cells t .own cs]) h' → W D (.ops r (put e dst (.sc (.slice (h0.n + m) 0 len len))) h') Q) : W D (.ops (⟨dst, .buildSlice t size len zero parts, none⟩ :: r) e h) Q := by
  rw [Option.bind_some, normC_eq, Option.bind_some, fillN_eq] at hf
  refine W_buildSlice hf ?_
  rw [hm.n]
  exact k _ (hm.push _)

def encP (p : Int × Int) : List SV := [.int .u8 p.1, .int .u8 p.2]
/-- A slice of slices. -/
def Shapes (h : Heap) (v : SV) : Prop := ∃ vs : List SV, Sl (fun s => [s]) 1 h v vs ∧ vs.length = 9 ∧ ∀ (i : Nat) (p : Shp), shapesL[i]? = some p → ∃ s, vs[i]? = some s ∧ Sl encP 2 h s p

theorem w21 (h : Heap) : W DD (.call 21 [] h) (fun _ vs h' => ∃ v, vs = [v] ∧ ∃ u, v = .sc u ∧ Shapes h' u ∧ Sub h h') := by
  refine W_enter d21 ?_
  show W _ (.code m21_code [undefA, undefA, undefA, undefA, undefA, undefA, undefA, undefA, undefA, undefA, undefA, undefA, undefA, undefA, undefA, undefA, undefA, undefA, undefA, undefA, undefA, undefA, undefA, undefA, undefA, undefA, undefA, undefA, undefA, undefA, undefA, undefA, undefA, undefA, undefA, undefA, undefA, undefA, undefA, undefA] _) _
  unfold m21_code
  repeat' (first
    | refine W_fast rfl ?_
    | (refine W_allocT ?_; intro h1 hd hs1 hn1; refine W_norm rfl ?_)
    | (refine W_storeT hd rfl rfl rfl (by decide) rfl rfl ?_; intro h2 ht2; have hs2 := hs1.fresh (Nat.le_refl _) ht2; have hb2 := ht2.new; have hh := Made.start h2; refine W_norm rfl ?_)
    | refine W_loadN (hh.sub.2 _ _ hb2) rfl rfl (W_norm rfl ?_)
    | (refine W_buildSliceM hh rfl ?_; clear hh; intro h3 hh; refine W_norm rfl ?_)
    | refine W_seq ?_
    | refine W_ops ?_
    | refine W_nil ?_
    | refine seqK_n ?_
    | refine seqK_r ?_
    | refine seqK_x ?_
    | refine blockK_r ?_
    | refine blockK_n ?_
    | refine blockK_e ?_
    | refine blockK_x rfl ?_
    | refine loopK_x ?_
    | refine loopK_r ?_
    | refine invK_x ?_
    | refine invK_r ?_
    | refine invK_n ?_
    | refine W_guard_on rfl ?_
    | refine W_guard_off rfl rfl (W_norm rfl ?_)
    | refine W_guard_u rfl (W_norm rfl ?_)
    | refine W_pick_t rfl rfl (W_norm rfl ?_)
    | refine W_pick_f rfl rfl (W_norm rfl ?_)
    | refine W_skip ?_
    | refine W_ret ?_
    | refine W_exit ?_
    | refine W_cond_t rfl ?_
    | refine W_cond_f rfl ?_
    | refine W_block ?_
    | refine W_draw rfl ?_
    | refine W_add rfl rfl (IntWalk.i64_in _ (by omega)) (W_norm rfl ?_)
    | refine W_add rfl rfl (IntWalk.i32_in _ (by omega)) (W_norm rfl ?_)
    | refine W_add rfl rfl (IntWalk.u8_in _ (by omega)) (W_norm rfl ?_)
    | refine W_sub rfl rfl (IntWalk.i64_in _ (by omega)) (W_norm rfl ?_)
    | refine W_sub rfl rfl (IntWalk.i32_in _ (by omega)) (W_norm rfl ?_)
    | refine W_sub rfl rfl (IntWalk.u8_in _ (by omega)) (W_norm rfl ?_)
    | refine W_mul rfl rfl (IntWalk.i64_in _ (by omega)) (W_norm rfl ?_)
    | refine W_mul rfl rfl (IntWalk.i32_in _ (by omega)) (W_norm rfl ?_)
    | refine W_mul rfl rfl (IntWalk.u8_in _ (by omega)) (W_norm rfl ?_)
    | refine W_convint rfl (IntWalk.i64_in _ (by omega)) (W_norm rfl ?_)
    | refine W_convint rfl (IntWalk.i32_in _ (by omega)) (W_norm rfl ?_)
    | refine W_convint rfl (IntWalk.u8_in _ (by omega)) (W_norm rfl ?_)
    | refine W_div rfl rfl (by omega) (W_norm rfl ?_)
    | refine W_mod rfl rfl (by omega) (W_norm rfl ?_)
    | refine W_indexSlice rfl rfl ⟨by omega, by omega⟩ (W_norm rfl ?_)
    | refine W_indexArr rfl rfl ⟨by omega, by omega⟩ (W_norm rfl ?_)
    | refine W_alloc (W_norm rfl ?_)
    | (refine W_guardT rfl (fun hc => ?_) (fun hc => ?_) <;> (try rw [hc]) <;> (try simp only [decide_eq_true_eq, decide_eq_false_iff_not, beq_iff_eq, beq_eq_false_iff_ne, bne_iff_ne, bne_eq_false_iff_eq, Bool.not_eq_true', Bool.not_eq_false', Int.not_lt, Int.not_le, ne_eq, reduceCtorEq, not_true_eq_false, not_false_eq_true, Decidable.not_not] at hc) <;> (try (exfalso; omega)) <;> (try refine W_norm rfl ?_))
    | (refine W_guardF rfl (fun hc => ?_) (fun hc => ?_) <;> (try rw [hc]) <;> (try simp only [decide_eq_true_eq, decide_eq_false_iff_not, beq_iff_eq, beq_eq_false_iff_ne, bne_iff_ne, bne_eq_false_iff_eq, Bool.not_eq_true', Bool.not_eq_false', Int.not_lt, Int.not_le, ne_eq, reduceCtorEq, not_true_eq_false, not_false_eq_true, Decidable.not_not] at hc) <;> (try (exfalso; omega)) <;> (try refine W_norm rfl ?_))
    | (refine W_cond rfl (fun hc => ?_) (fun hc => ?_) <;> (try rw [hc]) <;> (try simp only [decide_eq_true_eq, decide_eq_false_iff_not, beq_iff_eq, beq_eq_false_iff_ne, bne_iff_ne, bne_eq_false_iff_eq, Bool.not_eq_true', Bool.not_eq_false', Int.not_lt, Int.not_le, ne_eq, reduceCtorEq, not_true_eq_false, not_false_eq_true, Decidable.not_not] at hc) <;> (try (exfalso; omega)) <;> (try refine W_norm rfl ?_))
    | (refine W_pick rfl (fun hc => ?_) (fun hc => ?_) <;> (try rw [hc]) <;> (try simp only [decide_eq_true_eq, decide_eq_false_iff_not, beq_iff_eq, beq_eq_false_iff_ne, bne_iff_ne, bne_eq_false_iff_eq, Bool.not_eq_true', Bool.not_eq_false', Int.not_lt, Int.not_le, ne_eq, reduceCtorEq, not_true_eq_false, not_false_eq_true, Decidable.not_not] at hc) <;> (try (exfalso; omega)) <;> (try refine W_norm rfl ?_))
    | refine W_add rfl rfl rfl (W_norm rfl ?_)
    | refine W_sub rfl rfl rfl (W_norm rfl ?_)
    | refine W_mul rfl rfl rfl (W_norm rfl ?_)
    | (refine fnK_r rfl ?_; try dsimp only [gd_z, gd_s])
    | (refine fnK_n rfl ?_; try dsimp only [gd_z, gd_s]))
  refine ⟨_, rfl, _, rfl, ⟨_, Sl.whole (L := [_, _, _, _, _, _, _, _, _]) (fun _ => rfl) (hh.all 9 _ rfl), rfl, ?_⟩, hs2.trans hh.sub⟩
  intro i p hp
  match i, hp with
  | 0, hp => cases hp; exact ⟨_, rfl, Sl.whole (L := [(0, 127)]) (fun _ => rfl) (hh.all 0 _ rfl)⟩
  | 1, hp => cases hp; exact ⟨_, rfl, Sl.whole (L := [(194, 223), (128, 191)]) (fun _ => rfl) (hh.all 1 _ rfl)⟩
  | 2, hp => cases hp; exact ⟨_, rfl, Sl.whole (L := [(224, 224), (160, 191), (128, 191)]) (fun _ => rfl) (hh.all 2 _ rfl)⟩
  | 3, hp => cases hp; exact ⟨_, rfl, Sl.whole (L := [(225, 236), (128, 191), (128, 191)]) (fun _ => rfl) (hh.all 3 _ rfl)⟩
  | 4, hp => cases hp; exact ⟨_, rfl, Sl.whole (L := [(237, 237), (128, 159), (128, 191)]) (fun _ => rfl) (hh.all 4 _ rfl)⟩
  | 5, hp => cases hp; exact ⟨_, rfl, Sl.whole (L := [(238, 239), (128, 191), (128, 191)]) (fun _ => rfl) (hh.all 5 _ rfl)⟩
  | 6, hp => cases hp; exact ⟨_, rfl, Sl.whole (L := [(240, 240), (144, 191), (128, 191), (128, 191)]) (fun _ => rfl) (hh.all 6 _ rfl)⟩
  | 7, hp => cases hp; exact ⟨_, rfl, Sl.whole (L := [(241, 243), (128, 191), (128, 191), (128, 191)]) (fun _ => rfl) (hh.all 7 _ rfl)⟩
  | 8, hp => cases hp; exact ⟨_, rfl, Sl.whole (L := [(244, 244), (128, 143), (128, 191), (128, 191)]) (fun _ => rfl) (hh.all 8 _ rfl)⟩
  | i + 9, hp => cases hp
end Go.Proofs.Ytcgfcnbcfcllpaa
