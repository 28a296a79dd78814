import Derived.Test.YtfmldkjidfigbaaDoorJxM25A
import Derived.Test.YtfmldkjidfigbaaDoorJxE25
import Derived.Test.YtfmldkjidfigbaaDoorJxW9
/- Compose, in plain Lean: rectangles, and rows that are laid over. -/
set_option linter.unusedSimpArgs false
set_option linter.unusedVariables false
set_option maxHeartbeats 1000000
set_option maxRecDepth 100000
namespace Go.Proofs.YtfmldkjidfigbaaDoor
open Go Go.Jx

structure Rc where
  x : Int
  y : Int
  w : Int
  h : Int
  deriving DecidableEq
def rc0 : Rc := ⟨0, 0, 0, 0⟩
def rcE : El Rc := ⟨4, fun r => [.int .i64 r.x, .int .i64 r.y, .int .i64 r.w, .int .i64 r.h], fun l => match l with | [.int _ x, .int _ y, .int _ w, .int _ h] => ⟨x, y, w, h⟩ | _ => rc0, rc0, fun _ => rfl, by decide, fun _ => rfl⟩
theorem rcE_fits (r : Rc) : fits [.int .i64, .int .i64, .int .i64, .int .i64] (rcE.enc r) = true := rfl
def maxI : Int := 9223372036854775807
def InI (n : Int) : Prop := -9223372036854775808 ≤ n ∧ n ≤ 9223372036854775807
def RcI (r : Rc) : Prop := InI r.x ∧ InI r.y ∧ InI r.w ∧ InI r.h
def endR (a n : Int) : Int := if a > maxI - n then maxI else a + n
def inR (z : Rc) (x y : Int) : Bool := decide (z.w > 0 ∧ z.h > 0 ∧ x ≥ z.x ∧ y ≥ z.y ∧ x < endR z.x z.w ∧ y < endR z.y z.h)
def cropR (z w : Rc) : Rc :=
  if z.w ≤ 0 ∨ z.h ≤ 0 ∨ w.w ≤ 0 ∨ w.h ≤ 0 then rc0
  else if max z.x w.x ≥ min (endR z.x z.w) (endR w.x w.w) ∨ max z.y w.y ≥ min (endR z.y z.h) (endR w.y w.h) then rc0
  else ⟨max z.x w.x, max z.y w.y, min (endR z.x z.w) (endR w.x w.w) - max z.x w.x, min (endR z.y z.h) (endR w.y w.h) - max z.y w.y⟩
/-- The page: where rows may be laid over. -/
def PageR (Z : Rc) (W H : Nat) : Prop := Z = ⟨0, 0, (W : Int), (H : Int)⟩ ∧ 1 ≤ W ∧ W ≤ 400 ∧ H ≤ 400
theorem crop_page {p Z : Rc} {W H : Nat} (hZ : PageR Z W H) (hp : RcI p) : cropR p Z = rc0 ∨ (0 ≤ (cropR p Z).x ∧ 1 ≤ (cropR p Z).w ∧ (cropR p Z).x + (cropR p Z).w ≤ W ∧ 0 ≤ (cropR p Z).y ∧ 1 ≤ (cropR p Z).h ∧ (cropR p Z).y + (cropR p Z).h ≤ H ∧ p.x ≤ (cropR p Z).x ∧ p.y ≤ (cropR p Z).y ∧ 0 < p.w ∧ 0 < p.h ∧
    ((cropR p Z).x - p.x < p.w) ∧ (cropR p Z).y + (cropR p Z).h - p.y ≤ p.h ∧ ∀ x y : Int, (cropR p Z).x ≤ x → x < (cropR p Z).x + (cropR p Z).w → (cropR p Z).y ≤ y → y < (cropR p Z).y + (cropR p Z).h → inR p x y = true) := by
  obtain ⟨rfl, h1, h2, h3⟩ := hZ
  obtain ⟨⟨a1, a2⟩, ⟨a3, a4⟩, ⟨a5, a6⟩, ⟨a7, a8⟩⟩ := hp
  unfold cropR
  split
  · exact .inl rfl
  rename_i hn
  split
  · exact .inl rfl
  rename_i hm
  right
  have e1 : endR 0 (W : Int) = W := by unfold endR maxI; rw [if_neg (by omega)]; omega
  have e2 : endR 0 (H : Int) = H := by unfold endR maxI; rw [if_neg (by omega)]; omega
  simp only [e1, e2] at hm ⊢
  have e3 : endR p.x p.w ≤ p.x + p.w := by unfold endR maxI; split <;> omega
  have e4 : endR p.y p.h ≤ p.y + p.h := by unfold endR maxI; split <;> omega
  refine ⟨by omega, by omega, by omega, by omega, by omega, by omega, by omega, by omega, by omega, by omega, by omega, by omega, fun x y b1 b2 b3 b4 => ?_⟩
  unfold inR
  rw [decide_eq_true_eq]
  omega
/-- Two that have nothing both. -/
theorem crop_apart {z w : Rc} (h : cropR z w = rc0) (hz : RcI z) (hw : RcI w) (x y : Int) : ¬ (inR z x y = true ∧ inR w x y = true) := by
  rintro ⟨h1, h2⟩
  unfold inR at h1 h2
  rw [decide_eq_true_eq] at h1 h2
  unfold cropR at h
  rw [if_neg (by omega), if_neg (by omega)] at h
  have := congrArg Rc.w h
  simp only [rc0] at this
  omega

/-! ## a row that is laid over -/
def putsL (l : List Cell) (x : Int) (m : List Cell) : List Cell := (eraseL l x m.length attr0).take x.toNat ++ m ++ (eraseL l x m.length attr0).drop (x.toNat + m.length)
theorem putsL_length {l m : List Cell} {x : Nat} (h : x + m.length ≤ l.length) : (putsL l x m).length = l.length := by
  unfold putsL
  simp only [List.length_append, List.length_take, List.length_drop, eraseL_length, Int.toNat_natCast]; omega
theorem erase_eq {l : List Cell} {x n : Nat} (h : x + n ≤ l.length) (hn : 1 ≤ n) : eraseL l (x : Int) (n : Int) attr0 = (partL (partL l x) ((x : Int) + n)).take x ++ List.replicate n (blankC attr0) ++ (partL (partL l x) ((x : Int) + n)).drop (x + n) := by
  have hr : roomL l.length (x : Int) (n : Int) = n := by unfold roomL; rw [if_pos (by omega)]; omega
  unfold eraseL
  rw [hr, if_neg (by omega)]
  simp only [Int.toNat_natCast]
theorem puts_eq {l m : List Cell} {x : Nat} (h : x + m.length ≤ l.length) (hn : 1 ≤ m.length) : putsL l x m = (partL (partL l x) ((x : Int) + m.length)).take x ++ m ++ (partL (partL l x) ((x : Int) + m.length)).drop (x + m.length) := by
  unfold putsL
  rw [erase_eq h hn]
  generalize hP : partL (partL l x) ((x : Int) + m.length) = P
  have hl : P.length = l.length := by rw [← hP, partL_length, partL_length]
  have e1 : (P.take x ++ List.replicate m.length (blankC attr0) ++ P.drop (x + m.length)).take x = P.take x := by
    rw [List.append_assoc, List.take_left' (by rw [List.length_take]; omega)]
  have e2 : (P.take x ++ List.replicate m.length (blankC attr0) ++ P.drop (x + m.length)).drop (x + m.length) = P.drop (x + m.length) := by
    rw [List.drop_left' (by rw [List.length_append, List.length_take, List.length_replicate]; omega)]
  rw [Int.toNat_natCast, e1, e2]
theorem part_get {L : List Cell} {x : Nat} {i : Nat} (hi : i < L.length) : (partL L x).getD i cell0 = if 0 < x ∧ x < L.length ∧ (L.getD x cell0).w = 2 ∧ (i = x ∨ i + 1 = x) then blankC (L.getD i cell0).a else L.getD i cell0 := by
  rw [List.getD_eq_getElem?_getD, partL_get]
  have hg : L[i]? = some (L.getD i cell0) := getD_get? hi
  by_cases hc : 0 < x ∧ x < L.length ∧ (L.getD x cell0).w = 2 ∧ (i = x ∨ i + 1 = x)
  · rw [if_pos hc, if_pos (by refine ⟨by omega, by omega, hc.2.2.1, ?_⟩; omega), hg]; rfl
  · rw [if_neg hc, if_neg (by rintro ⟨a, b, c, d⟩; exact hc ⟨by omega, by omega, c, by omega⟩), hg]; rfl
theorem puts_get {l m : List Cell} {x i : Nat} (h : x + m.length ≤ l.length) (hn : 1 ≤ m.length) (hi : i < l.length) :
    (putsL l x m).getD i cell0 = if x ≤ i ∧ i < x + m.length then m.getD (i - x) cell0 else if (i + 1 = x ∧ (l.getD x cell0).w = 2) ∨ (i = x + m.length ∧ (l.getD i cell0).w = 2) then blankC (l.getD i cell0).a else l.getD i cell0 := by
  rw [puts_eq h hn]
  have hp := part_get (L := l) (x := x) hi
  have hpl : (partL l (x : Int)).length = l.length := partL_length _ _
  have hq := part_get (L := partL l x) (x := x + m.length) (i := i) (by rw [hpl]; exact hi)
  rw [hpl] at hq
  rw [show ((x : Int) + (m.length : Int)) = ((x + m.length : Nat) : Int) by omega]
  generalize hQ : partL (partL l (x : Int)) ((x + m.length : Nat) : Int) = Q at *
  have hql : Q.length = l.length := by rw [← hQ, partL_length, partL_length]
  by_cases h1 : x ≤ i ∧ i < x + m.length
  · rw [if_pos h1, List.append_assoc, List.getD_eq_getElem?_getD, List.getElem?_append_right (by rw [List.length_take]; omega), List.length_take, Nat.min_eq_left (by omega), List.getElem?_append_left (by omega), ← List.getD_eq_getElem?_getD]
  · rw [if_neg h1]
    have hgi : (Q.take x ++ m ++ Q.drop (x + m.length)).getD i cell0 = Q.getD i cell0 := by
      by_cases h2 : i < x
      · rw [List.append_assoc, List.getD_eq_getElem?_getD, List.getElem?_append_left (by rw [List.length_take]; omega), List.getElem?_take_of_lt h2, ← List.getD_eq_getElem?_getD]
      · rw [List.getD_eq_getElem?_getD, List.getElem?_append_right (by rw [List.length_append, List.length_take]; omega), List.length_append, List.length_take, Nat.min_eq_left (by omega), List.getElem?_drop, ← List.getD_eq_getElem?_getD]
        congr 1; omega
    rw [hgi, hq]
    have hw : x + m.length < l.length → ((partL l (x : Int)).getD (x + m.length) cell0) = l.getD (x + m.length) cell0 := by
      intro hlt
      rw [part_get hlt, if_neg (by omega)]
    by_cases h3 : i + 1 = x
    · rw [if_neg (by omega), hp]
      by_cases h4 : (l.getD x cell0).w = 2
      · rw [if_pos ⟨by omega, by omega, h4, .inr h3⟩, if_pos (.inl ⟨h3, h4⟩)]
      · rw [if_neg (by rintro ⟨_, _, c, _⟩; exact h4 c), if_neg (by rintro (⟨_, c⟩ | ⟨c, _⟩); exact h4 c; omega)]
    · have hp' : (partL l (x : Int)).getD i cell0 = l.getD i cell0 := by rw [hp, if_neg (by omega)]
      rw [hp']
      by_cases h4 : i = x + m.length
      · subst h4
        rw [hw hi]
        by_cases h5 : (l.getD (x + m.length) cell0).w = 2
        · rw [if_pos ⟨by omega, hi, h5, .inl rfl⟩, if_pos (.inr ⟨rfl, h5⟩)]
        · rw [if_neg (by rintro ⟨_, _, c, _⟩; exact h5 c), if_neg (by rintro (⟨c, _⟩ | ⟨_, c⟩); omega; exact h5 c)]
      · rw [if_neg (by omega), if_neg (by omega)]
theorem puts_whole {l m : List Cell} {x : Nat} (h : x + m.length ≤ l.length) (hn : 1 ≤ m.length) (hl : W3 l) (hm : W3 m) : W3 (putsL l x m) := by
  rw [puts_eq h hn]
  have h1 := partL_whole (x := (x : Int)) hl
  have h2 := partL_whole (x := ((x : Int) + m.length)) h1
  have c1 : Cut (partL (partL l x) ((x : Int) + m.length)) x := by
    have := partL_keep (x := (x : Int) + m.length) (partL_cut (x := (x : Int)) (by omega) hl)
    simpa using this
  have c2 : Cut (partL (partL l x) ((x : Int) + m.length)) (x + m.length) := by
    have := partL_cut (x := (x : Int) + m.length) (by omega) h1
    rwa [show ((x : Int) + m.length).toNat = x + m.length by omega] at this
  exact W3_append (W3_append (W3_take h2 c1) hm) (W3_drop h2 c2)
theorem W3_first {m : List Cell} (h : W3 m) (hn : 1 ≤ m.length) : (m.getD 0 cell0).w ≠ 2 := by
  intro h2
  rcases h 0 _ (getD_get? (d := cell0) hn) with h1 | ⟨h1, _⟩ | ⟨_, j, d, h3, _⟩ <;> omega
theorem W3_two {l : List Cell} (h : W3 l) {x : Nat} (hx : x < l.length) (h2 : (l.getD x cell0).w = 2) : 1 ≤ x ∧ (l.getD (x - 1) cell0).w = 1 := by
  rcases h x _ (getD_get? (d := cell0) hx) with h1 | ⟨h1, _⟩ | ⟨_, j, d, h3, h4, h5⟩
  · omega
  · omega
  · subst h3
    refine ⟨by omega, ?_⟩
    rw [Nat.add_sub_cancel, List.getD_eq_getElem?_getD, h4]; exact h5

/-! ## two rows that differ only inside a part -/
def Agree (a b : Nat) (l1 l2 : List Cell) : Prop :=
  l1.length = l2.length ∧ b ≤ l1.length ∧ (∀ i, i < l1.length → ¬ (a ≤ i ∧ i < b) → l1.getD i cell0 = l2.getD i cell0) ∧
    (a < b → (l1.getD a cell0).w ≠ 2 ∧ (l2.getD a cell0).w ≠ 2) ∧ (a < b → b < l1.length → (l1.getD b cell0).w ≠ 2 ∧ (l2.getD b cell0).w ≠ 2)
def narrow (m : List Cell) : Prop := ∀ i, i < m.length → (m.getD i cell0).w = 0
theorem agree_same {l : List Cell} : Agree 0 0 l l := ⟨rfl, Nat.zero_le _, fun _ _ _ => rfl, fun h => by omega, fun h => by omega⟩
theorem agree_puts {a b x : Nat} {l1 l2 m : List Cell} (h : Agree a b l1 l2) (hx : x + m.length ≤ l1.length) (hn : 1 ≤ m.length) (hm : narrow m ∨ (W3 m ∧ (a < b → x + m.length ≤ a ∨ b ≤ x))) : Agree a b (putsL l1 x m) (putsL l2 x m) := by
  obtain ⟨h1, h2, h3, h4, h5⟩ := h
  have hx2 : x + m.length ≤ l2.length := by omega
  have g1 := fun i hi => puts_get (i := i) hx hn hi
  have g2 := fun i hi => puts_get (i := i) hx2 hn (show i < l2.length by omega)
  have hb0 : ∀ c : Cell, (blankC c.a).w ≠ 2 := fun c => by simp [blankC]
  have hmw : ∀ j, j < m.length → narrow m → (m.getD j cell0).w ≠ 2 := fun j hj hh => by rw [hh j hj]; decide
  refine ⟨by rw [putsL_length hx, putsL_length hx2]; exact h1, by rw [putsL_length hx]; exact h2, fun i hi hni => ?_, fun hab => ?_, fun hab hbl => ?_⟩
  · rw [putsL_length hx] at hi
    rw [g1 i hi, g2 i (by omega)]
    by_cases c1 : x ≤ i ∧ i < x + m.length
    · rw [if_pos c1, if_pos c1]
    rw [if_neg c1, if_neg c1, ← h3 i hi hni]
    have hiff : ((i + 1 = x ∧ (l1.getD x cell0).w = 2) ∨ (i = x + m.length ∧ (l1.getD i cell0).w = 2)) ↔ ((i + 1 = x ∧ (l2.getD x cell0).w = 2) ∨ (i = x + m.length ∧ (l1.getD i cell0).w = 2)) := by
      by_cases c2 : i + 1 = x
      · by_cases c3 : a ≤ x ∧ x < b
        · have : x = a := by omega
          subst this
          have := h4 (by omega)
          rw [eq_false this.1, eq_false this.2]
        · rw [h3 x (by omega) c3]
      · simp [c2]
    by_cases c4 : (i + 1 = x ∧ (l1.getD x cell0).w = 2) ∨ (i = x + m.length ∧ (l1.getD i cell0).w = 2)
    · rw [if_pos c4, if_pos (hiff.1 c4)]
    · rw [if_neg c4, if_neg (fun h => c4 (hiff.2 h))]
  · have ha := h4 hab
    rw [g1 a (by omega), g2 a (by omega)]
    by_cases c1 : x ≤ a ∧ a < x + m.length
    · rw [if_pos c1, if_pos c1]
      rcases hm with hm | ⟨_, hm⟩
      · exact ⟨hmw _ (by omega) hm, hmw _ (by omega) hm⟩
      · have := hm hab; omega
    · rw [if_neg c1, if_neg c1]
      constructor <;> split <;> first | exact hb0 _ | exact ha.1 | exact ha.2
  · rw [putsL_length hx] at hbl
    have hb := h5 hab hbl
    rw [g1 b (by omega), g2 b (by omega)]
    by_cases c1 : x ≤ b ∧ b < x + m.length
    · rw [if_pos c1, if_pos c1]
      rcases hm with hm | ⟨hw, hm⟩
      · exact ⟨hmw _ (by omega) hm, hmw _ (by omega) hm⟩
      · have := hm hab
        have hbx : b - x = 0 := by omega
        rw [hbx]
        exact ⟨W3_first hw hn, W3_first hw hn⟩
    · rw [if_neg c1, if_neg c1]
      constructor <;> split <;> first | exact hb0 _ | exact hb.1 | exact hb.2
theorem agree_part {x : Nat} {l m1 m2 : List Cell} (hx : x + m1.length ≤ l.length) (hn : 1 ≤ m1.length) (hl : m1.length = m2.length) (h1 : W3 m1) (h2 : W3 m2) : Agree x (x + m1.length) (putsL l x m1) (putsL l x m2) := by
  have hx2 : x + m2.length ≤ l.length := by omega
  have g1 := fun i hi => puts_get (m := m1) (i := i) hx hn hi
  have g2 := fun i hi => puts_get (m := m2) (i := i) hx2 (by omega) hi
  have hb0 : ∀ c : Cell, (blankC c.a).w ≠ 2 := fun c => by simp [blankC]
  refine ⟨by rw [putsL_length hx, putsL_length hx2], by rw [putsL_length hx]; exact hx, fun i hi hni => ?_, fun hab => ?_, fun hab hbl => ?_⟩
  · rw [putsL_length hx] at hi
    rw [g1 i hi, g2 i hi, ← hl, if_neg hni, if_neg hni]
  · rw [g1 x (by omega), g2 x (by omega), if_pos ⟨Nat.le_refl _, by omega⟩, if_pos ⟨Nat.le_refl _, by omega⟩, Nat.sub_self]
    exact ⟨W3_first h1 hn, W3_first h2 (by omega)⟩
  · rw [putsL_length hx] at hbl
    rw [g1 _ hbl, g2 _ hbl, ← hl]
    rw [if_neg (show ¬ (x ≤ x + m1.length ∧ x + m1.length < x + m1.length) by omega)]
    rw [if_neg (show ¬ (x ≤ x + m1.length ∧ x + m1.length < x + m1.length) by omega)]
    have : ∀ c : Cell, (if (x + m1.length + 1 = x ∧ (l.getD x cell0).w = 2) ∨ (x + m1.length = x + m1.length ∧ (l.getD (x + m1.length) cell0).w = 2) then blankC (l.getD (x + m1.length) cell0).a else l.getD (x + m1.length) cell0).w ≠ 2 := by
      intro _
      by_cases c : (l.getD (x + m1.length) cell0).w = 2
      · rw [if_pos (.inr ⟨rfl, c⟩)]; exact hb0 _
      · rw [if_neg (by rintro (⟨d, _⟩ | ⟨_, d⟩); omega; exact c d)]; exact c
    exact ⟨this cell0, this cell0⟩
/-! ## a row with parts, and one without -/
def Clear (held : Nat → Bool) (l1 l2 : List Cell) : Prop :=
  l1.length = l2.length ∧ W3 l1 ∧ narrow l2 ∧ ∀ i, i < l1.length → held i = false → l1.getD i cell0 = l2.getD i cell0 ∧ (l1.getD i cell0).w = 0
theorem clear_part {held : Nat → Bool} {x : Nat} {l1 l2 m : List Cell} (h : Clear held l1 l2) (hx : x + m.length ≤ l1.length) (hn : 1 ≤ m.length) (hm : W3 m) (hh : ∀ i, x ≤ i → i < x + m.length → held i = true) : Clear held (putsL l1 x m) l2 := by
  obtain ⟨h1, h2, h3, h4⟩ := h
  refine ⟨by rw [putsL_length hx]; exact h1, puts_whole hx hn h2 hm, h3, fun i hi hf => ?_⟩
  rw [putsL_length hx] at hi
  obtain ⟨h5, h6⟩ := h4 i hi hf
  rw [puts_get hx hn hi, if_neg (fun c => by rw [hh i c.1 c.2] at hf; cases hf), if_neg]
  · exact ⟨h5, h6⟩
  · rintro (⟨c1, c2⟩ | ⟨c1, c2⟩)
    · have := (W3_two h2 (by omega) c2).2
      rw [← c1, Nat.add_sub_cancel] at this
      omega
    · omega
theorem clear_border {held : Nat → Bool} {x : Nat} {l1 l2 m : List Cell} (h : Clear held l1 l2) (hx : x + m.length ≤ l1.length) (hn : 1 ≤ m.length) (hm : narrow m) (hw : W3 m) : Clear held (putsL l1 x m) (putsL l2 x m) := by
  obtain ⟨h1, h2, h3, h4⟩ := h
  have hx2 : x + m.length ≤ l2.length := by omega
  have e2 : ∀ i, i < l2.length → (putsL l2 x m).getD i cell0 = if x ≤ i ∧ i < x + m.length then m.getD (i - x) cell0 else l2.getD i cell0 := by
    intro i hi
    rw [puts_get hx2 hn hi]
    split
    · rfl
    · rw [if_neg]
      rintro (⟨c1, c2⟩ | ⟨c1, c2⟩)
      · rw [h3 x (by omega)] at c2; cases c2
      · rw [h3 i (by omega)] at c2; cases c2
  refine ⟨by rw [putsL_length hx, putsL_length hx2]; exact h1, puts_whole hx hn h2 hw, fun i hi => ?_, fun i hi hf => ?_⟩
  · rw [putsL_length hx2] at hi
    rw [e2 i hi]
    split
    · exact hm _ (by omega)
    · exact h3 i hi
  · rw [putsL_length hx] at hi
    obtain ⟨h5, h6⟩ := h4 i hi hf
    rw [e2 i (by omega), puts_get hx hn hi]
    by_cases c : x ≤ i ∧ i < x + m.length
    · rw [if_pos c, if_pos c]; exact ⟨rfl, hm _ (by omega)⟩
    · rw [if_neg c, if_neg c, if_neg]
      · exact ⟨h5, h6⟩
      · rintro (⟨c1, c2⟩ | ⟨c1, c2⟩)
        · have := (W3_two h2 (by omega) c2).2
          rw [← c1, Nat.add_sub_cancel] at this
          omega
        · omega
end Go.Proofs.YtfmldkjidfigbaaDoor
/- Compose: rectangles, and cells repeated. -/
set_option linter.unusedSimpArgs false
set_option linter.unusedVariables false
set_option maxHeartbeats 1000000
set_option maxRecDepth 100000
namespace Go.Proofs.YtfmldkjidfigbaaDoor
open Go Go.Jx

theorem w32 {a n : Int} {h : Heap} (ha : InI a) (hn : InI n) (h0 : 0 < n) : Wc DD 32 [i64 a, i64 n] h fun v h' => v = i64 (endR a n) ∧ h' = h := by
  have hs := Sep.entry h
  obtain ⟨a1, a2⟩ := ha
  obtain ⟨n1, n2⟩ := hn
  refine W_enter d32 ?_
  show W _ (.code m32_code [i64 a, i64 n, undefA, undefA, undefA, undefA, undefA, undefA, undefA, undefA, undefA, undefA, undefA, undefA, undefA, undefA] _) _
  unfold m32_code
  repeat' (first
    | (refine K_ops ?_; first
      | refine W_fastB rfl ?_
      | refine W_nil ?_
      | (refine K_guard ?_; first
        | refine W_guard_on rfl ?_
        | (refine W_guardT rfl (fun hc => ?_) (fun hc => ?_) <;> (try rw [hc]) <;> (try simp only [decide_eq_true_eq, decide_eq_false_iff_not, beq_iff_eq, beq_eq_false_iff_ne, bne_iff_ne, bne_eq_false_iff_eq, Bool.not_eq_true', Bool.not_eq_false', Int.not_lt, Int.not_le, ne_eq, reduceCtorEq, not_true_eq_false, not_false_eq_true, Decidable.not_not] at hc) <;> (try (exfalso; omega)) <;> (try refine W_norm rfl ?_))
      )
      | (refine K_bin ?_; first
        | (refine W_add rfl rfl (IntWalk.i64_in _ (by first | omega | (simp only [List.length_set, List.length_append, List.length_take, List.length_drop, List.length_replicate, List.length_cons, List.length_nil, decs_length, List.length_map]; omega))) ?_; refine W_norm rfl ?_)
        | (refine W_sub rfl rfl (IntWalk.i64_in _ (by first | omega | (simp only [List.length_set, List.length_append, List.length_take, List.length_drop, List.length_replicate, List.length_cons, List.length_nil, decs_length, List.length_map]; omega))) ?_; refine W_norm rfl ?_)
      )
      | (refine K_pick ?_; first
        | refine W_pick_t rfl rfl (W_norm rfl ?_)
      )
    )
    | (refine K_code ?_; first
      | refine W_seq ?_
      | refine W_ops ?_
      | (refine W_cond rfl (fun hc => ?_) (fun hc => ?_) <;> (try rw [hc]) <;> (try simp only [decide_eq_true_eq, decide_eq_false_iff_not, beq_iff_eq, beq_eq_false_iff_ne, bne_iff_ne, bne_eq_false_iff_eq, Bool.not_eq_true', Bool.not_eq_false', Int.not_lt, Int.not_le, ne_eq, reduceCtorEq, not_true_eq_false, not_false_eq_true, Decidable.not_not] at hc) <;> (try (exfalso; omega)) <;> (try refine W_norm rfl ?_))
      | refine W_skip ?_
      | refine W_ret ?_
    )
    | refine seqK_n ?_
    | refine seqK_r ?_
    | (refine fnK_r rfl ?_; try dsimp only [gd_z, gd_s]))
  all_goals refine ⟨_, rfl, ?_, rfl⟩
  all_goals unfold endR maxI
  · rw [if_pos (by omega)]
  · rw [if_neg (by omega)]

theorem w15 {z : Rc} {x y : Int} {h : Heap} (hz : RcI z) : Wc DD 15 [.agg (rcE.enc z), i64 x, i64 y] h fun v h' => v = bo (inR z x y) ∧ Sep (Now h) [] h' := by
  have hs := Sep.entry h
  obtain ⟨z1, z2, z3, z4⟩ := hz
  refine W_enter d15 ?_
  show W _ (.code m15_code [.agg (rcE.enc z), i64 x, i64 y, undefA, undefA, undefA, undefA, undefA, undefA, undefA, undefA, undefA, undefA, undefA, undefA, undefA, undefA, undefA, undefA, undefA, undefA, undefA, undefA, undefA, undefA, undefA, undefA, undefA, undefA, undefA, undefA, undefA, undefA, undefA, undefA, undefA, undefA, undefA, undefA, undefA, undefA, undefA, undefA, undefA, undefA] _) _
  unfold m15_code
  repeat' (first
    | (refine K_ops ?_; first
      | refine W_fastB rfl ?_
      | refine W_nil ?_
      | (refine K_guard ?_; first
        | refine W_guard_on rfl ?_
        | refine W_guard_off rfl rfl (W_norm rfl ?_)
        | (refine W_guardT rfl (fun hc => ?_) (fun hc => ?_) <;> (try rw [hc]) <;> (try simp only [decide_eq_true_eq, decide_eq_false_iff_not, beq_iff_eq, beq_eq_false_iff_ne, bne_iff_ne, bne_eq_false_iff_eq, Bool.not_eq_true', Bool.not_eq_false', Int.not_lt, Int.not_le, ne_eq, reduceCtorEq, not_true_eq_false, not_false_eq_true, Decidable.not_not] at hc) <;> (try (exfalso; omega)) <;> (try refine W_norm rfl ?_))
      )
      | (refine K_call ?_; first
        | (refine W_callsN 32 rfl (w32 z1 z3 (by omega)) rfl ?_; rintro _ h3 ⟨rfl, rfl⟩; refine W_norm rfl ?_)
        | (refine W_callsN 32 rfl (w32 z2 z4 (by omega)) rfl ?_; rintro _ h3 ⟨rfl, rfl⟩; refine W_norm rfl ?_)
      )
      | (refine K_pick ?_; first
        | refine W_pick_t rfl rfl (W_norm rfl ?_)
        | refine W_pick_f rfl rfl (W_norm rfl ?_)
      )
      | (refine K_load ?_; first
        | (refine W_loadC hs 0 rfl rfl rfl ?_; refine W_norm rfl ?_)
      )
      | (refine W_boxS hs rfl rfl ?_; clear hs; intro bx _ hs; try simp only [cell_back, attr_back, List.set_cons_zero, List.set_cons_succ, List.eraseIdx_cons_succ, List.eraseIdx_zero, List.tail_cons, List.nil_append, List.cons_append] at hs; refine W_norm rfl ?_)
    )
    | (refine K_code ?_; first
      | refine W_seq ?_
      | refine W_ops ?_
      | refine W_ret ?_
    )
    | refine seqK_n ?_
    | (refine fnK_r rfl ?_; try dsimp only [gd_z, gd_s]))
  all_goals refine ⟨_, rfl, ?_, hs.drop 0⟩
  all_goals unfold inR
  all_goals first
    | (rw [decide_eq_true (by omega)]; done)
    | (rw [decide_eq_false (by omega)]; done)
    | (refine congrArg (fun b => AV.sc (SV.bool b)) (Bool.eq_iff_iff.2 ?_); simp only [decide_eq_true_eq, Bool.false_eq_true, false_iff]; omega)
end Go.Proofs.YtfmldkjidfigbaaDoor
/- Compose: what two rectangles have both. -/
set_option linter.unusedSimpArgs false
set_option linter.unusedVariables false
set_option maxHeartbeats 1000000
set_option maxRecDepth 100000
namespace Go.Proofs.YtfmldkjidfigbaaDoor
open Go Go.Jx

theorem w13 {z w : Rc} {h : Heap} (hz : RcI z) (hw : RcI w) : Wc DD 13 [.agg (rcE.enc z), .agg (rcE.enc w)] h fun v h' => v = .agg (rcE.enc (cropR z w)) ∧ Sep (Now h) [] h' := by
  have hs := Sep.entry h
  obtain ⟨z1, z2, z3, z4⟩ := hz
  obtain ⟨w1, w2, w3, w4⟩ := hw
  have b1 := z1; have b2 := z2; have b3 := z3; have b4 := z4
  have d1 := w1; have d2 := w2; have d3 := w3; have d4 := w4
  have e1 : endR z.x z.w ≤ z.x + z.w := by unfold endR maxI; split <;> omega
  have e2 : endR z.y z.h ≤ z.y + z.h := by unfold endR maxI; split <;> omega
  unfold InI at b1 b2 b3 b4 d1 d2 d3 d4
  refine W_enter d13 ?_
  show W _ (.code m13_code [.agg (rcE.enc z), .agg (rcE.enc w), undefA, undefA, undefA, undefA, undefA, undefA, undefA, undefA, undefA, undefA, undefA, undefA, undefA, undefA, undefA, undefA, undefA, undefA, undefA, undefA, undefA, undefA, undefA, undefA, undefA, undefA, undefA, undefA, undefA, undefA, undefA, undefA, undefA, undefA, undefA, undefA, undefA, undefA, undefA, undefA, undefA, undefA, undefA, undefA, undefA, undefA, undefA, undefA, undefA, undefA, undefA, undefA, undefA, undefA, undefA, undefA, undefA, undefA, undefA, undefA, undefA, undefA, undefA, undefA, undefA, undefA, undefA, undefA, undefA, undefA, undefA, undefA, undefA, undefA, undefA, undefA] _) _
  unfold m13_code
  repeat' (first
    | (refine K_ops ?_; first
      | refine W_fastB rfl ?_
      | refine W_nil ?_
      | (refine K_guard ?_; first
        | refine W_guard_on rfl ?_
        | refine W_guard_off rfl rfl (W_norm rfl ?_)
        | (refine W_guardF rfl (fun hc => ?_) (fun hc => ?_) <;> (try rw [hc]) <;> (try simp only [decide_eq_true_eq, decide_eq_false_iff_not, beq_iff_eq, beq_eq_false_iff_ne, bne_iff_ne, bne_eq_false_iff_eq, Bool.not_eq_true', Bool.not_eq_false', Int.not_lt, Int.not_le, ne_eq, reduceCtorEq, not_true_eq_false, not_false_eq_true, Decidable.not_not] at hc) <;> (try (exfalso; omega)) <;> (try refine W_norm rfl ?_))
      )
      | (refine K_call ?_; first
        | (refine W_callsN 32 rfl (w32 z1 z3 (by omega)) rfl ?_; rintro _ h3 ⟨rfl, rfl⟩; refine W_norm rfl ?_)
        | (refine W_callsN 32 rfl (w32 w1 w3 (by omega)) rfl ?_; rintro _ h3 ⟨rfl, rfl⟩; refine W_norm rfl ?_)
        | (refine W_callsN 32 rfl (w32 z2 z4 (by omega)) rfl ?_; rintro _ h3 ⟨rfl, rfl⟩; refine W_norm rfl ?_)
        | (refine W_callsN 32 rfl (w32 w2 w4 (by omega)) rfl ?_; rintro _ h3 ⟨rfl, rfl⟩; refine W_norm rfl ?_)
      )
      | (refine K_bin ?_; first
        | (refine W_sub rfl rfl (IntWalk.i64_in _ (by first | omega | (simp only [List.length_set, List.length_append, List.length_take, List.length_drop, List.length_replicate, List.length_cons, List.length_nil, decs_length, List.length_map]; omega))) ?_; refine W_norm rfl ?_)
      )
      | (refine K_pick ?_; first
        | refine W_pick_t rfl rfl (W_norm rfl ?_)
        | refine W_pick_f rfl rfl (W_norm rfl ?_)
      )
      | (refine K_load ?_; first
        | (refine W_loadC hs 1 rfl rfl rfl ?_; refine W_norm rfl ?_)
        | (refine W_loadC hs 2 rfl rfl rfl ?_; refine W_norm rfl ?_)
      )
      | (refine K_store ?_; first
        | (refine W_storeC hs 0 rfl rfl rfl rfl (by first | decide | assumption) rfl rfl ?_; intro _ hs; try simp only [cell_back, attr_back, List.set_cons_zero, List.set_cons_succ, List.eraseIdx_cons_succ, List.eraseIdx_zero, List.tail_cons, List.nil_append, List.cons_append] at hs; refine W_norm rfl ?_)
      )
      | (refine W_allocS hs ?_; intro al _ hs; try simp only [cell_back, attr_back, List.set_cons_zero, List.set_cons_succ, List.eraseIdx_cons_succ, List.eraseIdx_zero, List.tail_cons, List.nil_append, List.cons_append] at hs; refine W_norm rfl ?_)
      | (refine W_boxS hs rfl rfl ?_; intro bx _ hs; try simp only [cell_back, attr_back, List.set_cons_zero, List.set_cons_succ, List.eraseIdx_cons_succ, List.eraseIdx_zero, List.tail_cons, List.nil_append, List.cons_append] at hs; refine W_norm rfl ?_)
      | (refine W_buildN rfl ?_; refine W_norm rfl ?_)
      | (refine W_min2 rfl rfl ?_; refine W_norm rfl ?_)
      | (refine W_max2 rfl rfl ?_; refine W_norm rfl ?_)
    )
    | (refine K_code ?_; first
      | refine W_seq ?_
      | refine W_ops ?_
      | refine W_cond_t rfl ?_
      | (refine W_cond rfl (fun hc => ?_) (fun hc => ?_) <;> (try rw [hc]) <;> (try simp only [decide_eq_true_eq, decide_eq_false_iff_not, beq_iff_eq, beq_eq_false_iff_ne, bne_iff_ne, bne_eq_false_iff_eq, Bool.not_eq_true', Bool.not_eq_false', Int.not_lt, Int.not_le, ne_eq, reduceCtorEq, not_true_eq_false, not_false_eq_true, Decidable.not_not] at hc) <;> (try (exfalso; omega)) <;> (try refine W_norm rfl ?_))
      | refine W_skip ?_
      | refine W_ret ?_
      | refine W_draws ?_
    )
    | refine W_dstep rfl ?_
    | refine ⟨rfl, fun rc hrec => ?_⟩
    | (refine W_dnilS (by simp only [List.reverse_cons, List.reverse_nil, List.nil_append, List.cons_append]; rfl) (by repeat' first | exact CL_nil _ _ | refine CL_skip rfl ?_ | refine CL_load (by assumption) rfl (by first | exact trivial | (repeat' first | exact trivial | refine ⟨⟨_, rfl, (by refine (congrArg (fun x => Heap.get x _) (RecIs.hh (by assumption))).trans ?_; first | rfl | exact PtR.same_get (by assumption) (by assumption) (by assumption) | exact Sep.same_get (by assumption) (by assumption) 0 0 rfl rfl | exact Sep.same_get (by assumption) (by assumption) 0 1 rfl rfl | exact Sep.same_get (by assumption) (by assumption) 0 2 rfl rfl | exact Sep.same_get (by assumption) (by assumption) 1 0 rfl rfl | exact Sep.same_get (by assumption) (by assumption) 1 1 rfl rfl | exact Sep.same_get (by assumption) (by assumption) 1 2 rfl rfl | exact Sep.same_get (by assumption) (by assumption) 2 0 rfl rfl | exact Sep.same_get (by assumption) (by assumption) 2 1 rfl rfl | exact Sep.same_get (by assumption) (by assumption) 2 2 rfl rfl)⟩, ?_⟩)) (by first | exact trivial | (repeat' first | exact trivial | refine ⟨⟨_, rfl, (by refine (congrArg (fun x => Heap.get x _) (RecIs.hh' (by assumption))).trans ?_; first | rfl | exact PtR.same_get (by assumption) (by assumption) (by assumption) | exact Sep.same_get (by assumption) (by assumption) 0 0 rfl rfl | exact Sep.same_get (by assumption) (by assumption) 0 1 rfl rfl | exact Sep.same_get (by assumption) (by assumption) 0 2 rfl rfl | exact Sep.same_get (by assumption) (by assumption) 1 0 rfl rfl | exact Sep.same_get (by assumption) (by assumption) 1 1 rfl rfl | exact Sep.same_get (by assumption) (by assumption) 1 2 rfl rfl | exact Sep.same_get (by assumption) (by assumption) 2 0 rfl rfl | exact Sep.same_get (by assumption) (by assumption) 2 1 rfl rfl | exact Sep.same_get (by assumption) (by assumption) 2 2 rfl rfl)⟩, ?_⟩)) ?_) ?_)
    | refine seqK_n ?_
    | refine seqK_r ?_
    | (refine fnK_cellS hs 0 rfl rfl rfl rfl ?_))
  all_goals refine ⟨_, rfl, ?_, hs.none⟩
  all_goals unfold cropR
  all_goals first
    | (rw [if_pos (by omega)]; rfl)
    | (rw [if_neg (by omega), if_pos (by omega)]; rfl)
    | (rw [if_neg (by omega), if_neg (by omega)]; rfl)
end Go.Proofs.YtfmldkjidfigbaaDoor
/- Compose: cells repeated. -/
set_option linter.unusedSimpArgs false
set_option linter.unusedVariables false
set_option maxHeartbeats 1000000
set_option maxRecDepth 100000
namespace Go.Proofs.YtfmldkjidfigbaaDoor
open Go Go.Jx

abbrev u64 (x : Int) : AV := .sc (.int .u64 x)
theorem shr32 {n : Int} (h : 0 ≤ n ∧ n < 4294967296) : n / 4294967296 = 0 := by omega
theorem w49 {n : Int} {h : Heap} (hn : 0 ≤ n ∧ n ≤ 400) : Wc DD 49 [u64 1, u64 n] h fun v h' => v = .tup [u64 0, u64 n] ∧ h' = h := by
  have hs := Sep.entry h
  refine W_enter d49 ?_
  show W _ (.code m49_code [u64 1, u64 n, undefA, undefA, undefA, undefA, undefA, undefA, undefA, undefA, undefA, undefA, undefA, undefA, undefA, undefA, undefA, undefA, undefA, undefA, undefA, undefA, undefA, undefA, undefA, undefA, undefA, undefA, undefA, undefA, undefA, undefA, undefA, undefA, undefA, undefA, undefA, undefA, undefA, undefA, undefA, undefA, undefA, undefA, undefA, undefA, undefA, undefA, undefA, undefA, undefA] _) _
  unfold m49_code
  repeat' (first
    | (refine K_ops ?_; first
      | refine W_fastB rfl ?_
      | refine W_nil ?_
      | (refine K_bin ?_; first
        | (refine W_shr rfl rfl (by decide) ?_; refine W_norm rfl ?_)
        | (refine W_and rfl rfl ?_; refine W_norm rfl ?_)
        | (refine W_add rfl rfl rfl ?_; refine W_norm rfl ?_)
        | (refine W_mul rfl rfl rfl ?_; refine W_norm rfl ?_)
      )
    )
    | (refine K_code ?_; first
      | refine W_seq ?_
      | refine W_ops ?_
      | refine W_ret ?_
    )
    | refine seqK_n ?_
    | (refine fnK_r rfl ?_; try dsimp only [gd_z, gd_s]))
  obtain ⟨k, rfl⟩ : ∃ k : Fin 401, n = (k.val : Int) := ⟨⟨n.toNat, by omega⟩, by simp; omega⟩
  clear hn hs
  have cg : ∀ {a b c d : Int}, a = c → b = d → AV.tup [u64 a, u64 b] = AV.tup [u64 c, u64 d] := fun h1 h2 => by rw [h1, h2]
  refine ⟨_, rfl, cg ?_ ?_, rfl⟩ <;> (clear cg h; revert k; decide +kernel)
theorem w45 {n : Int} {h : Heap} (hn : 0 ≤ n ∧ n ≤ 400) : Wc DD 45 [u64 1, u64 n] h fun v h' => v = .tup [u64 0, u64 n] ∧ h' = h := by
  have hs := Sep.entry h
  refine W_enter d45 ?_
  show W _ (.code m45_code [u64 1, u64 n, undefA, undefA, undefA, undefA, undefA, undefA, undefA, undefA, undefA, undefA, undefA, undefA, undefA, undefA, undefA, undefA, undefA, undefA, undefA, undefA, undefA, undefA, undefA, undefA, undefA, undefA, undefA, undefA] _) _
  unfold m45_code
  repeat' (first
    | (refine K_ops ?_; first
      | refine W_fastB rfl ?_
      | refine W_nil ?_
      | (refine K_call ?_; first
        | (refine W_callsN 49 rfl (w49 hn) rfl ?_; rintro _ _ ⟨rfl, rfl⟩; refine W_norm rfl ?_)
      )
    )
    | (refine K_code ?_; first
      | refine W_seq ?_
      | refine W_ops ?_
      | refine W_cond_f rfl ?_
      | refine W_skip ?_
      | refine W_ret ?_
    )
    | refine seqK_n ?_
    | (refine fnK_r rfl ?_; try dsimp only [gd_z, gd_s]))
  exact ⟨_, rfl, rfl, rfl⟩

/-- One cell, so many times. -/
theorem w41 {v : SV} {c : Cell} {n : Int} {h : Heap} (hv : SlR cellE (Now h) v [c]) (hn : 0 ≤ n ∧ n ≤ 400) : Wc DD 41 [.sc v, i64 n] h fun w h' => ∃ u d, w = .sc u ∧ AccS cellE 34 u (List.replicate n.toNat c) d ∧ Sep (Now h) [d] h' := by
  have hs := Sep.entry h
  have hln := hv.ln
  refine W_enter d41 ?_
  show W _ (.code m41_code [.sc v, i64 n, undefA, undefA, undefA, undefA, undefA, undefA, undefA, undefA, undefA, undefA, undefA, undefA, undefA, undefA, undefA, undefA, undefA, undefA, undefA, undefA, undefA, undefA, undefA, undefA, undefA, undefA, undefA, undefA, undefA, undefA, undefA, undefA, undefA, undefA, undefA, undefA, undefA, undefA, undefA, undefA, undefA, undefA, undefA, undefA, undefA, undefA] _) _
  unfold m41_code
  repeat' (first
    | (refine K_ops ?_; first
      | refine W_fastB rfl ?_
      | refine W_nil ?_
      | (refine W_convint rfl (show IntKind.u64.wrap _ = _ from IntWalk.u64_in _ (by (try simp only [List.length_cons, List.length_nil]); omega)) (W_norm rfl ?_))
      | (refine K_guard ?_; first
        | refine W_guard_on rfl ?_
      )
      | (refine K_call ?_; first
        | (refine W_callsN 45 rfl (w45 hn) rfl ?_; rintro _ h0 ⟨rfl, rfl⟩; refine W_norm rfl ?_)
      )
      | (refine W_lenL rfl (by first | assumption | exact SlR.ln (by assumption) | exact AccS.ln (by assumption) | exact OwnS.ln (by assumption) | exact VwO.ln (by assumption) | exact OwnP.ln (by assumption) | exact Len.sl) ?_; refine W_norm rfl ?_)
      | (refine K_pick ?_; first
        | refine W_pick_f rfl rfl (W_norm rfl ?_)
      )
      | (refine K_make ?_; first
        | (refine W_makeS cellE hs rfl rfl (by first | omega | (simp only [List.length_set, List.length_append, List.length_take, List.length_drop, List.length_replicate, List.length_cons, List.length_nil, decs_length, List.length_map]; omega)) ⟨(by first | omega | (simp only [List.length_set, List.length_append, List.length_take, List.length_drop, List.length_replicate, List.length_cons, List.length_nil, decs_length, List.length_map]; omega)), (by first | omega | (simp only [List.length_set, List.length_append, List.length_take, List.length_drop, List.length_replicate, List.length_cons, List.length_nil, decs_length, List.length_map]; omega))⟩ rfl ?_; clear hs; intro _ _ hs; try simp only [cell_back, attr_back, List.set_cons_zero, List.set_cons_succ, List.eraseIdx_cons_succ, List.eraseIdx_zero, List.tail_cons, List.nil_append, List.cons_append] at hs; refine W_norm rfl ?_)
      )
      | (refine K_copy ?_; first
        | (refine W_copyV hs 0 rfl rfl (by first | assumption | exact VwO.whole) rfl (by first | decide | assumption) rfl (by first | omega | (simp only [List.length_set, List.length_append, List.length_take, List.length_drop, List.length_replicate, List.length_cons, List.length_nil, decs_length, List.length_map]; omega)) (by first | exact VwO.sl (by assumption) (hs.at1 0 rfl) (by first | omega | (simp only [List.length_set, List.length_append, List.length_take, List.length_drop, List.length_replicate, List.length_cons, List.length_nil, decs_length, List.length_map]; omega)) | exact VwO.sl (by assumption) (hs.at1 1 rfl) (by first | omega | (simp only [List.length_set, List.length_append, List.length_take, List.length_drop, List.length_replicate, List.length_cons, List.length_nil, decs_length, List.length_map]; omega)) | assumption | exact SlR.now hs (by assumption) | exact AccS.now (by assumption) hs (by simp) | exact OwnS.now (by assumption) hs (by simp)) ?_; clear hs; intro _ hs; try simp only [cell_back, attr_back, List.set_cons_zero, List.set_cons_succ, List.eraseIdx_cons_succ, List.eraseIdx_zero, List.tail_cons, List.nil_append, List.cons_append] at hs; refine W_norm rfl ?_)
      )
      | (refine W_convint rfl (IntWalk.i64_in _ (by omega)) ?_; refine W_norm rfl ?_)
    )
    | (refine K_code ?_; first
      | refine W_seq ?_
      | refine W_ops ?_
      | (refine W_cond rfl (fun hc => ?_) (fun hc => ?_) <;> (try rw [hc]) <;> (try simp only [decide_eq_true_eq, decide_eq_false_iff_not, beq_iff_eq, beq_eq_false_iff_ne, bne_iff_ne, bne_eq_false_iff_eq, Bool.not_eq_true', Bool.not_eq_false', Int.not_lt, Int.not_le, ne_eq, reduceCtorEq, not_true_eq_false, not_false_eq_true, Decidable.not_not] at hc) <;> (try (exfalso; omega)) <;> (try refine W_norm rfl ?_))
      | refine W_skip ?_
      | refine W_block ?_
    )
    | refine seqK_n ?_)
  generalize hz : cellE.dec [SV.int IntKind.i32 0, SV.int IntKind.u8 0, SV.int IntKind.u16 0, SV.int IntKind.u8 0, SV.int IntKind.u32 0, SV.int IntKind.u8 0, SV.int IntKind.u32 0] = c0 at *
  rename_i id _ _
  refine W_loopB [8, 34, 35, 36, 37, 38, 39, 40, 41, 42, 43, 44, 45, 46] [0, 1, 2, 3, 4, 5, 6, 7, 8, 9, 10, 11, 12, 13, 14, 15, 16, 17, 18, 19, 20, 21, 22, 23, 24, 25, 26, 27, 28, 29, 30, 31, 32, 33, 34, 35, 36, 37, 38, 39, 40, 41, 42, 43, 44, 45, 46, 47] (fun n' sl h' => ∃ (k : Nat), sl = [(7, .sc (.slice id 0 n.toNat n.toNat)), (8, .sc (.int .i64 (k : Int)))] ∧ n' = n.toNat - k ∧ k ≤ n.toNat ∧ (k = 0 → n = 0) ∧ Sep (Now h0) [[(id, .cells 34 .own ((List.replicate k c ++ List.replicate (n.toNat - k) c0).flatMap cellE.enc))]] h') ?_ ?_
  · have e : List.take 0 (List.replicate n.toNat c0) ++ List.take n.toNat [c] ++ List.drop (0 + min [c].length n.toNat) (List.replicate n.toNat c0) = List.replicate (min 1 n.toNat) c ++ List.replicate (n.toNat - min 1 n.toNat) c0 := by
      rcases Nat.eq_zero_or_pos n.toNat with h0 | h0
      · rw [h0]; simp
      · rw [Nat.min_eq_left h0, List.take_of_length_le (show [c].length ≤ n.toNat from h0), List.drop_replicate]
        simp only [List.length_cons, List.length_nil, Nat.zero_add, Nat.min_eq_left h0]
        rfl
    rw [e] at hs
    refine ⟨_, _, ⟨min 1 n.toNat, rfl, rfl, ?_, ?_, hs⟩, EnvB.of rfl⟩
    · omega
    · omega
  rintro _ _ us _ h2 ⟨k, rfl, rfl, hk, hk0, hs⟩ he
  refine W_spell he rfl ?_
  clear he
  unfold m41_l8
  have hL : (List.replicate k c ++ List.replicate (n.toNat - k) c0).length = n.toNat := by simp; omega
  by_cases hlt : k < n.toNat
  · have hst : (List.replicate k c ++ List.replicate (n.toNat - k) c0).take k ++ ((List.replicate k c ++ List.replicate (n.toNat - k) c0).take k).take (n.toNat - k) ++ (List.replicate k c ++ List.replicate (n.toNat - k) c0).drop (k + min k (n.toNat - k)) = List.replicate (k + min k (n.toNat - k)) c ++ List.replicate (n.toNat - (k + min k (n.toNat - k))) c0 := by
      have e1 : (List.replicate k c ++ List.replicate (n.toNat - k) c0).take k = List.replicate k c := List.take_left' (by simp)
      have e2 : (List.replicate k c ++ List.replicate (n.toNat - k) c0).drop (k + min k (n.toNat - k)) = List.replicate (n.toNat - (k + min k (n.toNat - k))) c0 := by
        rw [List.drop_append, List.drop_of_length_le (by simp), List.nil_append, List.drop_replicate]
        congr 1
        simp only [List.length_replicate]
        omega
      rw [e1, e2, List.take_replicate, List.replicate_append_replicate]
      congr 2
      omega
    generalize List.replicate k c ++ List.replicate (n.toNat - k) c0 = L at *
    repeat' (first
      | (refine K_ops ?_; first
        | refine W_fastB rfl ?_
        | refine W_nil ?_
        | (refine W_lenL rfl (by first | assumption | exact SlR.ln (by assumption) | exact AccS.ln (by assumption) | exact OwnS.ln (by assumption) | exact VwO.ln (by assumption) | exact OwnP.ln (by assumption) | exact Len.sl) ?_; refine W_norm rfl ?_)
        | (refine K_bin ?_; first
          | (refine W_add rfl rfl (IntWalk.i64_in _ (by first | omega | (simp only [List.length_set, List.length_append, List.length_take, List.length_drop, List.length_replicate, List.length_cons, List.length_nil, decs_length, List.length_map]; omega))) ?_; refine W_norm rfl ?_)
        )
        | (refine K_slice ?_; first
          | (refine W_sliceO0To rfl rfl (by first | omega | (simp only [List.length_set, List.length_append, List.length_take, List.length_drop, List.length_replicate, List.length_cons, List.length_nil, decs_length, List.length_map]; omega)) ⟨(by first | omega | (simp only [List.length_set, List.length_append, List.length_take, List.length_drop, List.length_replicate, List.length_cons, List.length_nil, decs_length, List.length_map]; omega)), (by first | omega | (simp only [List.length_set, List.length_append, List.length_take, List.length_drop, List.length_replicate, List.length_cons, List.length_nil, decs_length, List.length_map]; omega))⟩ ?_; intro _ _; refine W_norm rfl ?_)
          | (refine W_sliceO0From rfl rfl (by first | omega | (simp only [List.length_set, List.length_append, List.length_take, List.length_drop, List.length_replicate, List.length_cons, List.length_nil, decs_length, List.length_map]; omega)) ⟨(by first | omega | (simp only [List.length_set, List.length_append, List.length_take, List.length_drop, List.length_replicate, List.length_cons, List.length_nil, decs_length, List.length_map]; omega)), (by first | omega | (simp only [List.length_set, List.length_append, List.length_take, List.length_drop, List.length_replicate, List.length_cons, List.length_nil, decs_length, List.length_map]; omega))⟩ ?_; intro _ _; refine W_norm rfl ?_)
        )
        | (refine K_copy ?_; first
          | (refine W_copyV hs 0 rfl rfl (by first | assumption | exact VwO.whole) rfl (by first | decide | assumption) rfl (by first | omega | (simp only [List.length_set, List.length_append, List.length_take, List.length_drop, List.length_replicate, List.length_cons, List.length_nil, decs_length, List.length_map]; omega)) (by first | exact VwO.sl (by assumption) (hs.at1 0 rfl) (by first | omega | (simp only [List.length_set, List.length_append, List.length_take, List.length_drop, List.length_replicate, List.length_cons, List.length_nil, decs_length, List.length_map]; omega)) | exact VwO.sl (by assumption) (hs.at1 1 rfl) (by first | omega | (simp only [List.length_set, List.length_append, List.length_take, List.length_drop, List.length_replicate, List.length_cons, List.length_nil, decs_length, List.length_map]; omega)) | assumption | exact SlR.now hs (by assumption) | exact AccS.now (by assumption) hs (by simp) | exact OwnS.now (by assumption) hs (by simp)) ?_; intro _ hs; try simp only [cell_back, attr_back, List.set_cons_zero, List.set_cons_succ, List.eraseIdx_cons_succ, List.eraseIdx_zero, List.tail_cons, List.nil_append, List.cons_append] at hs; refine W_norm rfl ?_)
        )
      )
      | (refine K_code ?_; first
        | refine W_seq ?_
        | refine W_ops ?_
        | (refine W_cond rfl (fun hc => ?_) (fun hc => ?_) <;> (try rw [hc]) <;> (try simp only [decide_eq_true_eq, decide_eq_false_iff_not, beq_iff_eq, beq_eq_false_iff_ne, bne_iff_ne, bne_eq_false_iff_eq, Bool.not_eq_true', Bool.not_eq_false', Int.not_lt, Int.not_le, ne_eq, reduceCtorEq, not_true_eq_false, not_false_eq_true, Decidable.not_not] at hc) <;> (try (exfalso; omega)) <;> (try refine W_norm rfl ?_))
        | refine W_skip ?_
        | refine W_block ?_
        | refine W_draws ?_
      )
      | refine W_dstep rfl ?_
      | refine ⟨rfl, fun rc hrec => ?_⟩
      | (refine W_dnilS (by simp only [List.reverse_cons, List.reverse_nil, List.nil_append, List.cons_append]; rfl) (by repeat' first | exact CL_nil _ _ | refine CL_skip rfl ?_ | refine CL_load (by assumption) rfl (by first | exact trivial | (repeat' first | exact trivial | refine ⟨⟨_, rfl, (by refine (congrArg (fun x => Heap.get x _) (RecIs.hh (by assumption))).trans ?_; first | rfl | exact PtR.same_get (by assumption) (by assumption) (by assumption) | exact Sep.same_get (by assumption) (by assumption) 0 0 rfl rfl | exact Sep.same_get (by assumption) (by assumption) 0 1 rfl rfl | exact Sep.same_get (by assumption) (by assumption) 1 0 rfl rfl | exact Sep.same_get (by assumption) (by assumption) 1 1 rfl rfl)⟩, ?_⟩)) (by first | exact trivial | (repeat' first | exact trivial | refine ⟨⟨_, rfl, (by refine (congrArg (fun x => Heap.get x _) (RecIs.hh' (by assumption))).trans ?_; first | rfl | exact PtR.same_get (by assumption) (by assumption) (by assumption) | exact Sep.same_get (by assumption) (by assumption) 0 0 rfl rfl | exact Sep.same_get (by assumption) (by assumption) 0 1 rfl rfl | exact Sep.same_get (by assumption) (by assumption) 1 0 rfl rfl | exact Sep.same_get (by assumption) (by assumption) 1 1 rfl rfl)⟩, ?_⟩)) ?_) ?_)
      | refine seqK_n ?_
      | refine blockK_n ?_
      | refine invK_n ?_)
    simp only [Int.toNat_natCast, List.drop_zero, List.length_take, hL, Nat.min_eq_left hk] at hs
    rw [List.take_take, Nat.min_comm (n.toNat - k) k] at hs
    rw [List.take_take, Nat.min_comm (n.toNat - k) k] at hst
    rw [hst] at hs
    have eI : ((k : Int) + ((min (List.take (k : Int).toNat (List.drop 0 L)).length (n.toNat - (k : Int).toNat) : Nat) : Int)) = ((k + min k (n.toNat - k) : Nat) : Int) := by
      simp only [Int.toNat_natCast, List.drop_zero, List.length_take, hL]
      omega
    rw [eI]
    refine ⟨_, ?_, _, ⟨k + min k (n.toNat - k), rfl, rfl, ?_, ?_, hs⟩, EnvB.of rfl⟩
    · omega
    · omega
    · omega
  · repeat' (first
      | (refine K_ops ?_; first
        | refine W_fastB rfl ?_
        | refine W_nil ?_
        | (refine W_lenL rfl (by first | assumption | exact SlR.ln (by assumption) | exact AccS.ln (by assumption) | exact OwnS.ln (by assumption) | exact VwO.ln (by assumption) | exact OwnP.ln (by assumption) | exact Len.sl) ?_; refine W_norm rfl ?_)
      )
      | (refine K_code ?_; first
        | refine W_seq ?_
        | refine W_ops ?_
        | (refine W_cond rfl (fun hc => ?_) (fun hc => ?_) <;> (try rw [hc]) <;> (try simp only [decide_eq_true_eq, decide_eq_false_iff_not, beq_iff_eq, beq_eq_false_iff_ne, bne_iff_ne, bne_eq_false_iff_eq, Bool.not_eq_true', Bool.not_eq_false', Int.not_lt, Int.not_le, ne_eq, reduceCtorEq, not_true_eq_false, not_false_eq_true, Decidable.not_not] at hc) <;> (try (exfalso; omega)) <;> (try refine W_norm rfl ?_))
        | refine W_ret ?_
        | refine W_exit ?_
      )
      | refine seqK_n ?_
      | refine seqK_x ?_
      | refine blockK_e ?_
      | refine invK_x ?_
      | (refine fnK_r rfl ?_; try dsimp only [gd_z, gd_s]))
    obtain rfl : k = n.toNat := by omega
    rw [Nat.sub_self, List.replicate_zero, List.append_nil] at hs
    exact ⟨_, rfl, _, _, rfl, AccS.again (by decide) (by simp), hs⟩
end Go.Proofs.YtfmldkjidfigbaaDoor
/- Compose: what a page becomes. -/
set_option linter.unusedSimpArgs false
set_option linter.unusedVariables false
set_option maxHeartbeats 1000000
set_option maxRecDepth 100000
namespace Go.Proofs.YtfmldkjidfigbaaDoor
open Go Go.Jx

abbrev Rows' := List (List Cell)
/-- Rows laid over, so many from one on. -/
def drawN (rows : Rows') (x : Int) (y0 : Nat) (f : Nat → List Cell) : Nat → Rows'
  | 0 => rows
  | n + 1 => (drawN rows x y0 f n).set (y0 + n) (putsL ((drawN rows x y0 f n).getD (y0 + n) []) x (f (y0 + n)))
theorem drawN_length (rows : Rows') (x : Int) (y0 : Nat) (f : Nat → List Cell) (n : Nat) : (drawN rows x y0 f n).length = rows.length := by
  induction n with
  | zero => rfl
  | succ n ih => unfold drawN; rw [List.length_set, ih]
theorem drawN_get' (rows : Rows') (x : Int) (y0 : Nat) (f : Nat → List Cell) (n y : Nat) (h : y0 + n ≤ y) : (drawN rows x y0 f n).getD y [] = rows.getD y [] := by
  induction n with
  | zero => rfl
  | succ n ih =>
    unfold drawN
    rw [List.getD_eq_getElem?_getD, List.getElem?_set_ne (by omega), ← List.getD_eq_getElem?_getD]
    exact ih (by omega)
theorem drawN_get (rows : Rows') (x : Int) (y0 : Nat) (f : Nat → List Cell) (n : Nat) (h : y0 + n ≤ rows.length) (y : Nat) : (drawN rows x y0 f n).getD y [] = if y0 ≤ y ∧ y < y0 + n then putsL (rows.getD y []) x (f y) else rows.getD y [] := by
  induction n with
  | zero => rw [if_neg (by omega)]; rfl
  | succ n ih =>
    have ih := ih (by omega)
    unfold drawN
    have hl := drawN_length rows x y0 f n
    by_cases hy : y = y0 + n
    · subst hy
      rw [List.getD_eq_getElem?_getD, List.getElem?_set_self (by omega), Option.getD_some, if_pos (by omega)]
      have h2 : (drawN rows x y0 f n).getD (y0 + n) [] = rows.getD (y0 + n) [] := by
        have := drawN_get' rows x y0 f n (y0 + n) (by omega)
        exact this
      rw [h2]
    · rw [List.getD_eq_getElem?_getD, List.getElem?_set_ne (Ne.symm hy), ← List.getD_eq_getElem?_getD, ih]
      by_cases h1 : y0 ≤ y ∧ y < y0 + n
      · rw [if_pos h1, if_pos (by omega)]
      · rw [if_neg h1, if_neg (by omega)]
/-- All rows of a length. -/
def AllW (rows : Rows') (W : Nat) : Prop := ∀ l ∈ rows, l.length = W
theorem AllW.get {rows : Rows'} {W y : Nat} (h : AllW rows W) (hy : y < rows.length) : (rows.getD y []).length = W := by
  rw [List.getD_eq_getElem?_getD, List.getElem?_eq_getElem hy]; exact h _ (List.getElem_mem hy)
theorem drawN_all {rows : Rows'} {x y0 W n : Nat} {f : Nat → List Cell} (h : AllW rows W) (hf : ∀ k, x + (f k).length ≤ W) (hn : y0 + n ≤ rows.length) : AllW (drawN rows x y0 f n) W := by
  induction n with
  | zero => exact h
  | succ n ih =>
    have ih := ih (by omega)
    have hl := drawN_length rows x y0 f n
    unfold drawN
    intro l hm
    rcases List.mem_or_eq_of_mem_set hm with hm | rfl
    · exact ih l hm
    · have h1 := ih.get (y := y0 + n) (by omega)
      rw [putsL_length (by rw [h1]; exact hf _)]; exact h1
/-- What is in a page, or nothing. -/
def InZ (z : Rc) (W n : Nat) : Prop := z = rc0 ∨ (0 ≤ z.x ∧ 1 ≤ z.w ∧ z.x + z.w ≤ W ∧ 0 ≤ z.y ∧ 1 ≤ z.h ∧ z.y + z.h ≤ n)
theorem crop_in {p Z : Rc} {W H : Nat} (hZ : PageR Z W H) (hp : RcI p) : InZ (cropR p Z) W H := by
  rcases crop_page hZ hp with h | h
  · exact .inl h
  · exact .inr ⟨h.1, h.2.1, h.2.2.1, h.2.2.2.1, h.2.2.2.2.1, h.2.2.2.2.2.1⟩
structure PartM where
  r : Rc
  s : Bool
  l : List (List Cell)
def shadeC : Cell := ⟨9617, 0, ⟨2, 0, 0, 0, 0⟩⟩
def bordC (z : Rc) : Cell := ⟨if z.w = 1 then 9474 else 9472, 0, attr0⟩
def lineL (p : PartM) (y : Int) (z : Rc) : List Cell :=
  if p.r.w > 400 ∨ y - p.r.y ≥ p.l.length ∨ (p.l.getD (y - p.r.y).toNat []).length = 0 then List.replicate z.w.toNat (blankC attr0)
  else resizeL (deleteL (resizeL (tidyL (p.l.getD (y - p.r.y).toNat [])) p.r.w attr0) 0 (z.x - p.r.x) attr0) z.w attr0
def fillsR (rows : Rows') (z : Rc) (c : Cell) : Rows' := drawN rows z.x z.y.toNat (fun _ => List.replicate z.w.toNat c) z.h.toNat
def partR (Z : Rc) (rows : Rows') (p : PartM) : Rows' :=
  if p.s then drawN rows (cropR p.r Z).x (cropR p.r Z).y.toNat (fun y => lineL p y (cropR p.r Z)) (cropR p.r Z).h.toNat else fillsR rows (cropR p.r Z) shadeC
def borderR (Z : Rc) (rows : Rows') (z : Rc) : Rows' := fillsR rows (cropR z Z) (bordC z)
def revA : Attr := ⟨32, 0, 0, 0, 0⟩
def bannerC (s : List UInt8) (i : Nat) : Cell := if i < s.length then ⟨if 32 ≤ (s.getD i 0).toNat ∧ (s.getD i 0).toNat ≤ 126 then ((s.getD i 0).toNat : Int) else 63, 0, revA⟩ else blankC revA
def bannerL (s : List UInt8) (w : Nat) : List Cell := (List.range w).map (bannerC s)
def pageR (Z : Rc) (ps : List PartM) (bs : List Rc) : Rows' := bs.foldl (borderR Z) (ps.foldl (partR Z) (List.replicate Z.h.toNat (List.replicate Z.w.toNat (blankC attr0))))
structure Curs where
  x : Int
  y : Int
  v : Bool
def cursR (Z : Rc) (cur : Bool) (x y : Int) (c : Curs) (p : PartM) : Curs := if cur && p.s && inR (cropR p.r Z) x y then ⟨x, y, true⟩ else c
def cursL (Z : Rc) (cur : Bool) (x y : Int) (ps : List PartM) : Curs := ps.foldl (cursR Z cur x y) ⟨0, 0, false⟩
end Go.Proofs.YtfmldkjidfigbaaDoor
