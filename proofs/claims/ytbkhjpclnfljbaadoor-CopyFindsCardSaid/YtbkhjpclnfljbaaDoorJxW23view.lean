/- Views of lines, in plain Lean. -/
import Derived.Test.YtbkhjpclnfljbaaDoorJxW23plain
import Derived.Test.YtbkhjpclnfljbaaDoorJxW23text
set_option linter.unusedSimpArgs false
set_option linter.unusedVariables false
set_option maxHeartbeats 1000000
set_option maxRecDepth 100000
namespace Go.Proofs.YtbkhjpclnfljbaaDoor
open Go Go.Jx

def ln0 : Ln := ⟨[], false, false⟩
def near (n lo hi : Int) : Int := min (max n lo) hi
structure Vw where
  L : List Ln
  h : Int
  top : Int
  x : Int
  y : Int
  m : Option (Int × Int)
def wid (L : List Ln) (y : Int) : Int := (L.getD y.toNat ln0).cells.length
def toV (v : Vw) (x y : Int) : Vw :=
  { v with y := near y 0 (v.L.length - 1), x := near x 0 (wid v.L (near y 0 (v.L.length - 1)) - 1), top := near v.top (near y 0 (v.L.length - 1) - v.h + 1) (near y 0 (v.L.length - 1)) }
def moveV (v : Vw) (dx dy : Int) : Vw := toV v (v.x + near dx (-1000) 1000) (v.y + near dy (-1000) 1000)
def markV (v : Vw) : Vw := { v with m := some (v.x, v.y) }
def clearV (v : Vw) : Vw := { v with m := none }
def newV (L : List Ln) (h : Int) : Vw := ⟨L, h, max ((L.length : Int) - h) 0, 0, (L.length : Int) - 1, none⟩
structure OkL (L : List Ln) (h : Int) : Prop where
  len : 1 ≤ L.length
  big : L.length ≤ 900
  h1 : 1 ≤ h
  h2 : h ≤ 400
  cells : ∀ l ∈ L, 1 ≤ l.cells.length ∧ l.cells.length ≤ 1000
  runes : ∀ l ∈ L, ∀ c ∈ l.cells, -2147483648 ≤ c.r ∧ c.r ≤ 2147483647
structure OkV (v : Vw) : Prop where
  l : OkL v.L v.h
  y0 : 0 ≤ v.y
  y1 : v.y < v.L.length
  x0 : 0 ≤ v.x
  x1 : v.x < wid v.L v.y
  t0 : 0 ≤ v.top
  t1 : v.top ≤ v.y
  t2 : v.y < v.top + v.h
  mm : ∀ a b, v.m = some (a, b) → 0 ≤ b ∧ b < v.L.length ∧ 0 ≤ a ∧ a < wid v.L b
theorem OkL.wid {L : List Ln} {h : Int} (k : OkL L h) {y : Int} (h0 : 0 ≤ y) (h1 : y < L.length) : 1 ≤ wid L y ∧ wid L y ≤ 1000 := by
  unfold Proofs.YtbkhjpclnfljbaaDoor.wid
  have hl : y.toNat < L.length := by omega
  have := k.cells (L.getD y.toNat ln0) (by rw [List.getD_eq_getElem?_getD, List.getElem?_eq_getElem hl]; exact List.getElem_mem hl)
  omega
theorem near_in {n lo hi : Int} (h : lo ≤ hi) : lo ≤ near n lo hi ∧ near n lo hi ≤ hi := by unfold near; omega
theorem near_id {n lo hi : Int} (h : lo ≤ n) (h2 : n ≤ hi) : near n lo hi = n := by unfold near; omega
theorem newV_ok {L : List Ln} {h : Int} (k : OkL L h) : OkV (newV L h) := by
  obtain ⟨h1, h2, h3, h4, h5, _⟩ := id k
  have hw := k.wid (y := (L.length : Int) - 1) (by omega) (by omega)
  unfold newV
  exact ⟨k, by simp only; omega, by simp only; omega, by simp only; omega, by simp only; omega, by simp only; omega, by simp only; omega, by simp only; omega, fun a b hh => by simp at hh⟩
theorem toV_ok {v : Vw} (k : OkV v) (x y : Int) : OkV (toV v x y) := by
  obtain ⟨h1, h2, h3, h4, h5, _⟩ := id k.l
  have hy := near_in (n := y) (lo := 0) (hi := (v.L.length : Int) - 1) (by omega)
  have hw := k.l.wid (y := near y 0 ((v.L.length : Int) - 1)) (by omega) (by omega)
  have hx := near_in (n := x) (lo := 0) (hi := wid v.L (near y 0 ((v.L.length : Int) - 1)) - 1) (by omega)
  have ht := near_in (n := v.top) (lo := near y 0 ((v.L.length : Int) - 1) - v.h + 1) (hi := near y 0 ((v.L.length : Int) - 1)) (by omega)
  have ht0 : 0 ≤ near v.top (near y 0 ((v.L.length : Int) - 1) - v.h + 1) (near y 0 ((v.L.length : Int) - 1)) := by
    have := k.t0
    unfold near at hy ⊢
    omega
  unfold toV
  exact ⟨k.l, hy.1, by simp only; omega, hx.1, by simp only; omega, ht0, ht.2, by simp only; omega, k.mm⟩
theorem moveV_ok {v : Vw} (k : OkV v) (x y : Int) : OkV (moveV v x y) := toV_ok k _ _
theorem markV_ok {v : Vw} (k : OkV v) : OkV (markV v) := ⟨k.l, k.y0, k.y1, k.x0, k.x1, k.t0, k.t1, k.t2, fun a b h => by
  simp only [markV, Option.some.injEq, Prod.mk.injEq] at h
  obtain ⟨rfl, rfl⟩ := h
  exact ⟨k.y0, k.y1, k.x0, k.x1⟩⟩
theorem clearV_ok {v : Vw} (k : OkV v) : OkV (clearV v) := ⟨k.l, k.y0, k.y1, k.x0, k.x1, k.t0, k.t1, k.t2, fun a b h => by simp [clearV] at h⟩

/-! ### what is found -/
abbrev Spot := Int × Int
def bef (a b : Spot) : Bool := decide (a.2 < b.2 ∨ (a.2 = b.2 ∧ a.1 < b.1))
def Sorted (A : List Spot) : Prop := A.Pairwise fun a b => bef a b = true
theorem bef_trans {a b c : Spot} (h : bef a b = true) (k : bef b c = true) : bef a c = true := by
  simp only [bef, decide_eq_true_eq] at h k ⊢; omega
theorem bef_irr (a : Spot) : bef a a = false := by simp [bef]
theorem bef_asym {a b : Spot} (h : bef a b = true) : bef b a = false := by
  simp only [bef, decide_eq_true_eq, decide_eq_false_iff_not] at h ⊢; omega
theorem bef_total {a b : Spot} (h : bef a b = false) (k : bef b a = false) : a = b := by
  simp only [bef, decide_eq_false_iff_not] at h k
  exact Prod.ext (by omega) (by omega)
/-- Does a cell begin a text? -/
def begB (C : List Cell) (t : List UInt8) (x : Nat) : Bool := decide ((C.getD x cell0).w ≠ 2) && t.isPrefixOf (textB (C.drop x))
def begL (C : List Cell) (t : List UInt8) : List Nat := (List.range C.length).filter (begB C t)
def spotsL (L : List Ln) (t : List UInt8) : List Spot := (List.range L.length).flatMap fun (y : Nat) => (begL (L.getD y ln0).cells t).map fun (x : Nat) => ((x : Int), (y : Int))
theorem sorted_map (l : List Nat) (y : Nat) (h : l.Pairwise (· < ·)) : Sorted (l.map fun (x : Nat) => ((x : Int), (y : Int))) := by
  unfold Sorted
  rw [List.pairwise_map]
  exact h.imp fun {a b} hab => by
    simp only [bef, decide_eq_true_eq]
    exact .inr ⟨trivial, by omega⟩
theorem begL_sorted (C : List Cell) (t : List UInt8) : (begL C t).Pairwise (· < ·) := by
  unfold begL
  exact List.Pairwise.sublist List.filter_sublist (List.pairwise_lt_range)
theorem spotsL_mem {L : List Ln} {t : List UInt8} {p : Spot} : p ∈ spotsL L t ↔ ∃ x y : Nat, p = ((x : Int), (y : Int)) ∧ y < L.length ∧ x < (L.getD y ln0).cells.length ∧ begB (L.getD y ln0).cells t x = true := by
  unfold spotsL begL
  simp only [List.mem_flatMap, List.mem_range, List.mem_map, List.mem_filter]
  constructor
  · rintro ⟨y, hy, x, ⟨hx, hb⟩, rfl⟩; exact ⟨x, y, rfl, hy, hx, hb⟩
  · rintro ⟨x, y, rfl, hy, hx, hb⟩; exact ⟨y, hy, x, ⟨hx, hb⟩, rfl⟩
theorem spotsL_sorted (L : List Ln) (t : List UInt8) : Sorted (spotsL L t) := by
  unfold spotsL
  have key : ∀ n, Sorted ((List.range n).flatMap fun (y : Nat) => (begL (L.getD y ln0).cells t).map fun (x : Nat) => ((x : Int), (y : Int))) := by
    intro n
    induction n with
    | zero => simp [Sorted]
    | succ n ih =>
      rw [List.range_succ, List.flatMap_append]
      unfold Sorted at ih ⊢
      rw [List.pairwise_append]
      refine ⟨ih, by simpa [Sorted] using sorted_map _ n (begL_sorted _ _), ?_⟩
      intro a ha b hb
      simp only [List.mem_flatMap, List.mem_range, List.mem_map, List.mem_singleton] at ha hb
      obtain ⟨y, hy, x, _, rfl⟩ := ha
      obtain ⟨y2, rfl, x2, _, rfl⟩ := hb
      simp only [bef, decide_eq_true_eq]; omega
  exact key _
def pickF (A : List Spot) (p : Spot) : Option Spot := match A.find? (fun q => bef p q) with | some q => some q | none => A.head?
def pickB (A : List Spot) (p : Spot) : Option Spot := match (A.filter fun q => bef q p).getLast? with | some q => some q | none => A.getLast?
def pickL (A : List Spot) (p : Spot) (back : Bool) : Option Spot := if back then pickB A p else pickF A p
def findV (v : Vw) (t : List UInt8) (back : Bool) : Option Vw := (pickL (spotsL v.L t) (v.x, v.y) back).map fun p => toV v p.1 p.2
theorem pickF_mem {A : List Spot} {p q : Spot} (h : pickF A p = some q) : q ∈ A := by
  unfold pickF at h
  split at h
  · rename_i q' hq; cases h; exact List.mem_of_find?_eq_some hq
  · exact List.mem_of_head? h
theorem pickB_mem {A : List Spot} {p q : Spot} (h : pickB A p = some q) : q ∈ A := by
  unfold pickB at h
  split at h
  · rename_i q' hq
    cases h
    exact (List.mem_filter.1 (List.mem_of_getLast? hq)).1
  · exact List.mem_of_getLast? h
theorem pickL_mem {A : List Spot} {p q : Spot} {b : Bool} (h : pickL A p b = some q) : q ∈ A := by
  cases b
  · exact pickF_mem h
  · exact pickB_mem h
theorem pickL_none {A : List Spot} {p : Spot} {b : Bool} : pickL A p b = none ↔ A = [] := by
  constructor
  · intro h
    cases A with
    | nil => rfl
    | cons a A =>
      exfalso
      cases b
      · simp only [pickL, Bool.false_eq_true, if_false, pickF] at h
        split at h
        · cases h
        · simp at h
      · simp only [pickL, if_true, pickB] at h
        split at h
        · cases h
        · simp at h
  · rintro rfl
    cases b <;> simp [pickL, pickF, pickB]
/-- The first one behind a place, found from it, leads back to it. -/
theorem pick_back {A : List Spot} (hs : Sorted A) {p q : Spot} (hp : p ∈ A) (hq : pickF A p = some q) : pickB A q = some p := by
  obtain ⟨l1, l2, rfl⟩ := List.append_of_mem hp
  unfold Sorted at hs
  rw [List.pairwise_append, List.pairwise_cons] at hs
  obtain ⟨s1, ⟨s2, s3⟩, s4⟩ := hs
  have hl1 : ∀ a ∈ l1, bef a p = true := fun a ha => s4 a ha p (by simp)
  have hnone : l1.find? (fun q => bef p q) = none := List.find?_eq_none.2 fun a ha => by rw [bef_asym (hl1 a ha)]; simp
  cases l2 with
  | cons r l2 =>
    have hq' : q = r := by
      unfold pickF at hq
      rw [List.find?_append, hnone, Option.none_or, List.find?_cons, bef_irr, List.find?_cons, s2 r (by simp)] at hq
      exact (Option.some.inj hq).symm
    subst hq'
    unfold pickB
    have : (l1 ++ p :: q :: l2).filter (fun a => bef a q) = l1 ++ [p] := by
      rw [List.filter_append, List.filter_cons, if_pos (s2 q (by simp)), List.filter_cons, if_neg (by rw [bef_irr]; simp), List.filter_eq_self.2 (fun a ha => s4 a ha q (by simp))]
      have : l2.filter (fun a => bef a q) = [] := List.filter_eq_nil_iff.2 fun a ha => by
        rw [bef_asym ((List.pairwise_cons.1 s3).1 a ha)]; simp
      rw [this]
    rw [this]; simp
  | nil =>
    have hq' : (l1 ++ [p]).head? = some q := by
      unfold pickF at hq
      rw [List.find?_append, hnone, Option.none_or, List.find?_cons, bef_irr] at hq
      simpa using hq
    unfold pickB
    have : (l1 ++ [p]).filter (fun a => bef a q) = [] := by
      rw [List.filter_eq_nil_iff]
      intro a ha
      cases l1 with
      | nil =>
        simp at hq' ha
        subst hq' ha
        rw [bef_irr]; simp
      | cons b l1 =>
        simp at hq'
        subst hq'
        simp only [List.cons_append, List.mem_cons] at ha
        rcases ha with rfl | ha
        · rw [bef_irr]; simp
        · rcases List.mem_append.1 ha with ha | ha
          · rw [bef_asym ((List.pairwise_cons.1 s1).1 a ha)]; simp
          · simp at ha; subst ha
            rw [bef_asym (hl1 b (by simp))]; simp
    rw [this]; simp
/-- Who is found forwards: by what holds of him. -/
theorem find_first {A : List Spot} (hs : Sorted A) {P : Spot → Bool} {c : Spot} (hc : c ∈ A) (hP : P c = true) (hm : ∀ q ∈ A, P q = true → bef q c = false) : A.find? P = some c := by
  obtain ⟨l1, l2, rfl⟩ := List.append_of_mem hc
  unfold Sorted at hs
  rw [List.pairwise_append] at hs
  rw [List.find?_append]
  have : l1.find? P = none := List.find?_eq_none.2 fun a ha hPa => by
    have h1 := hs.2.2 a ha c (by simp)
    rw [hm a (by simp [ha]) hPa] at h1; cases h1
  rw [this, Option.none_or, List.find?_cons, hP]
theorem last_of {A : List Spot} (hs : Sorted A) {c : Spot} (hc : c ∈ A) (hm : ∀ q ∈ A, bef c q = false) : A.getLast? = some c := by
  obtain ⟨l1, l2, rfl⟩ := List.append_of_mem hc
  unfold Sorted at hs
  rw [List.pairwise_append, List.pairwise_cons] at hs
  cases l2 with
  | nil => simp
  | cons r l2 =>
    have h1 := hs.2.1.1 r (by simp)
    rw [hm r (by simp)] at h1; cases h1
theorem head_of {A : List Spot} (hs : Sorted A) {c : Spot} (hc : c ∈ A) (hm : ∀ q ∈ A, bef q c = false) : A.head? = some c := by
  obtain ⟨l1, l2, rfl⟩ := List.append_of_mem hc
  unfold Sorted at hs
  rw [List.pairwise_append] at hs
  cases l1 with
  | nil => simp
  | cons r l1 =>
    have h1 := hs.2.2 r (by simp) c (by simp)
    rw [hm r (by simp)] at h1; cases h1
theorem sorted_filter {A : List Spot} (hs : Sorted A) (P : Spot → Bool) : Sorted (A.filter P) := List.Pairwise.sublist List.filter_sublist hs
/-- Forwards: ahead of the end of the round, or behind it. -/
theorem pickF_of {A : List Spot} (hs : Sorted A) {p c : Spot} (hc : c ∈ A) (h : (bef p c = true ∧ ∀ q ∈ A, bef p q = true → bef q c = false) ∨ ((∀ q ∈ A, bef p q = false) ∧ ∀ q ∈ A, bef q c = false)) : pickF A p = some c := by
  unfold pickF
  rcases h with ⟨h1, h2⟩ | ⟨h1, h2⟩
  · rw [find_first hs hc h1 h2]
  · rw [List.find?_eq_none.2 (fun a ha => by rw [h1 a ha]; simp)]
    exact head_of hs hc h2
theorem pickB_of {A : List Spot} (hs : Sorted A) {p c : Spot} (hc : c ∈ A) (h : (bef c p = true ∧ ∀ q ∈ A, bef q p = true → bef c q = false) ∨ ((∀ q ∈ A, bef q p = false) ∧ ∀ q ∈ A, bef c q = false)) : pickB A p = some c := by
  unfold pickB
  rcases h with ⟨h1, h2⟩ | ⟨h1, h2⟩
  · rw [last_of (sorted_filter hs _) (List.mem_filter.2 ⟨hc, h1⟩) (fun q hq => h2 q (List.mem_filter.1 hq).1 (List.mem_filter.1 hq).2)]
  · rw [List.filter_eq_nil_iff.2 (fun a ha => by rw [h1 a ha]; simp)]
    exact last_of hs hc h2

/-! ### what is selected -/
/-- n cells' text, from one of them on: the first one's, whatever it is. -/
def segB (C : List Cell) (f n : Nat) : List UInt8 := (List.range n).flatMap fun k => if (C.getD (f + k) cell0).w ≠ 2 ∨ k = 0 then utf8 (C.getD (f + k) cell0).r else []
theorem segB_zero (C : List Cell) (f : Nat) : segB C f 0 = [] := rfl
theorem segB_succ (C : List Cell) (f n : Nat) : segB C f (n + 1) = segB C f n ++ (if (C.getD (f + n) cell0).w ≠ 2 ∨ n = 0 then utf8 (C.getD (f + n) cell0).r else []) := by
  unfold segB
  rw [List.range_succ, List.flatMap_append]; simp
theorem segB_length (C : List Cell) (f n : Nat) : (segB C f n).length ≤ 4 * n := by
  induction n with
  | zero => simp [segB]
  | succ n ih =>
    rw [segB_succ, List.length_append]
    have := utf8_length (C.getD (f + n) cell0).r
    split
    · omega
    · simp; omega
theorem segB_text {C : List Cell} {f : Nat} (h : f < C.length) (hw : (C.getD f cell0).w ≠ 2) : segB C f (C.length - f) = textB (C.drop f) := by
  have key : ∀ n, f + n ≤ C.length → segB C f n = textB ((C.drop f).take n) := by
    intro n
    induction n with
    | zero => intro _; simp [segB, textB]
    | succ n ih =>
      intro hn
      have h1 : (C.drop f).take (n + 1) = (C.drop f).take n ++ [C.getD (f + n) cell0] := by
        rw [List.take_add_one, List.getElem?_drop, List.getD_eq_getElem?_getD, List.getElem?_eq_getElem (by omega)]; rfl
      rw [segB_succ, ih (by omega), h1, textB_snoc]
      congr 1
      by_cases h0 : n = 0
      · subst h0
        rw [Nat.add_zero, if_pos (.inl hw), if_neg hw]
      · by_cases h2 : (C.getD (f + n) cell0).w = 2
        · rw [if_neg (by rintro (h3 | h3); exact h3 h2; exact h0 h3), if_pos h2]
        · rw [if_pos (.inl h2), if_neg h2]
  rw [key _ (by omega), List.take_of_length_le (by simp)]
/-- A line's columns, from one to another. -/
def partT (l : Ln) (a b : Int) : List UInt8 :=
  let last : Int := (l.cells.length : Int) - 1
  let b' := if b = last ∧ (l.joined = true ∧ l.short = true) then b - 1 else b
  let s := segB l.cells a.toNat (b' - a + 1).toNat
  if b = last ∧ l.joined = false then trimB s 32 else s
def selA (p q : Spot) : Spot := if bef q p then q else p
def selZ (p q : Spot) : Spot := if bef q p then p else q
theorem sel_comm (p q : Spot) : selA p q = selA q p ∧ selZ p q = selZ q p := by
  unfold selA selZ
  cases h : bef q p <;> cases k : bef p q
  · have := bef_total h k; subst this; simp
  · simp
  · simp
  · rw [bef_asym h] at k; cases k
/-- One line of what is selected. -/
def rowT (L : List Ln) (a z : Spot) (y : Int) : List UInt8 :=
  (if a.2 < y ∧ (L.getD (y - 1).toNat ln0).joined = false then [10] else []) ++ partT (L.getD y.toNat ln0) (if y = a.2 then a.1 else 0) (if y = z.2 then z.1 else wid L y - 1)
def linesT (L : List Ln) (a z : Spot) (n : Nat) : List UInt8 := (List.range n).flatMap fun (k : Nat) => rowT L a z (a.2 + (k : Int))
def selT (L : List Ln) (p q : Spot) : List UInt8 := linesT L (selA p q) (selZ p q) ((selZ p q).2 - (selA p q).2 + 1).toNat
def textV (v : Vw) : List UInt8 := match v.m with | none => [] | some p => selT v.L p (v.x, v.y)
theorem selT_comm (L : List Ln) (p q : Spot) : selT L p q = selT L q p := by
  unfold selT
  rw [(sel_comm p q).1, (sel_comm p q).2]
theorem linesT_succ (L : List Ln) (a z : Spot) (n : Nat) : linesT L a z (n + 1) = linesT L a z n ++ rowT L a z (a.2 + n) := by
  unfold linesT
  rw [List.range_succ, List.flatMap_append]; simp

theorem utf8_last (r : Int) (h : r ≠ 32) : ∃ s b, utf8 r = s ++ [b] ∧ b ≠ 32 := by
  have key : ∀ (l : List Int) (b : Int), intsB (utf8 r) = l ++ [b] → b ≠ 32 → ∃ s c, utf8 r = s ++ [c] ∧ c ≠ (32 : UInt8) := by
    intro l b hl hb
    have hne := utf8_ne r
    refine ⟨(utf8 r).dropLast, (utf8 r).getLast hne, (List.dropLast_concat_getLast hne).symm, fun hc => hb ?_⟩
    have h1 : intsB (utf8 r) = intsB (utf8 r).dropLast ++ [32] := by
      conv => lhs; rw [← List.dropLast_concat_getLast hne, hc]
      rw [intsB_append]; rfl
    rw [h1] at hl
    exact ((List.append_inj' hl rfl).2 |> fun h => (List.cons.inj h).1).symm
  by_cases h1 : 0 ≤ r ∧ r < 128
  · exact key [] r (by rw [utf8_1 h1]; rfl) h
  by_cases h2 : 128 ≤ r ∧ r ≤ 2047
  · exact key [192 + r / 64] (128 + r % 64) (by rw [utf8_2 h2]; rfl) (by omega)
  by_cases h3 : 2047 < r ∧ r ≤ 65535
  · by_cases hs : r < 55296 ∨ 57343 < r
    · exact key [224 + r / 4096, 128 + r / 64 % 64] (128 + r % 64) (by rw [utf8_3 h3 hs]; rfl) (by omega)
    · exact key [239, 191] 189 (by rw [utf8_0 (by omega)]; rfl) (by omega)
  by_cases h4 : 65535 < r ∧ r ≤ 1114111
  · exact key [240 + r / 262144, 128 + r / 4096 % 64, 128 + r / 64 % 64] (128 + r % 64) (by rw [utf8_4 h4]; rfl) (by omega)
  · exact key [239, 191] 189 (by rw [utf8_0 (by omega)]; rfl) (by omega)
theorem utf8_32 : utf8 32 = [32] := by decide +kernel
/-- What is trimmed, cell by cell. -/
theorem trimB_utf8 (s : List UInt8) (r : Int) : trimB (s ++ utf8 r) 32 = if r = 32 then trimB s 32 else s ++ utf8 r := by
  split
  · rename_i h; subst h; rw [utf8_32, trimB_snoc, if_pos rfl]
  · rename_i h
    obtain ⟨t, b, hb, hne⟩ := utf8_last r h
    rw [hb, ← List.append_assoc, trimB_snoc, if_neg hne]
theorem trimB_prefix {t s : List UInt8} (h : t.isPrefixOf s = true) (hne : t ≠ []) (hl : t.getLast hne ≠ 32) : t.isPrefixOf (trimB s 32) = true := by
  rw [List.isPrefixOf_iff_prefix] at h ⊢
  obtain ⟨u, rfl⟩ := h
  have key : ∀ n (u : List UInt8), u.length = n → t <+: trimB (t ++ u) 32 := by
    intro n
    induction n with
    | zero =>
      intro u hu
      obtain rfl := List.eq_nil_of_length_eq_zero hu
      rw [List.append_nil]
      have h1 := List.dropLast_concat_getLast hne
      rw [← h1, trimB_snoc, if_neg hl, h1]
      exact List.prefix_refl _
    | succ n ih =>
      intro u hu
      have hu0 : u ≠ [] := by rintro rfl; simp at hu
      rw [← List.dropLast_concat_getLast hu0, ← List.append_assoc, trimB_snoc]
      split
      · exact ih _ (by simp [hu])
      · rw [List.append_assoc]; exact List.prefix_append _ _
  exact key _ u rfl
end Go.Proofs.YtbkhjpclnfljbaaDoor
