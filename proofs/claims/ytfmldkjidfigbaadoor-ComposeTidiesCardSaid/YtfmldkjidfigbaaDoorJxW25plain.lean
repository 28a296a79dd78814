/- Compose, in plain Lean: lines made whole. -/
import Derived.Test.YtfmldkjidfigbaaDoorJxW8
set_option linter.unusedSimpArgs false
set_option linter.unusedVariables false
set_option maxRecDepth 100000
namespace Go.Proofs.YtfmldkjidfigbaaDoor
open Go Go.Jx

def bnd : List (Int × Int) := [(0, 31), (127, 159), (768, 879), (1155, 1161), (1425, 1469), (1552, 1562), (1611, 1631), (4352, 4447), (8203, 8207), (8400, 8447), (11904, 12350), (12353, 13311), (13312, 19903), (19968, 40959), (40960, 42191), (44032, 55203), (63744, 64255), (65024, 65039), (65056, 65071), (65072, 65135), (65280, 65376), (65504, 65510), (127744, 128591), (129280, 129535), (131072, 262141), (917760, 917999)]
def refTab : List (Int × Int × Int) := [(0, 31, 0), (127, 159, 0), (768, 879, 0), (1155, 1161, 0), (1425, 1469, 0), (1552, 1562, 0), (1611, 1631, 0), (8203, 8207, 0), (8400, 8447, 0), (65024, 65039, 0), (65056, 65071, 0), (917760, 917999, 0), (4352, 4447, 2), (11904, 12350, 2), (12353, 13311, 2), (13312, 19903, 2), (19968, 40959, 2), (40960, 42191, 2), (44032, 55203, 2), (63744, 64255, 2), (65072, 65135, 2), (65280, 65376, 2), (65504, 65510, 2), (127744, 128591, 2), (129280, 129535, 2), (131072, 262141, 2)]
def inT (r : Int) (t : Int × Int × Int) : Bool := decide (t.1 ≤ r ∧ r ≤ t.2.1)
def scanT (r : Int) (l : List (Int × Int × Int)) : Int := match l.find? (inT r) with | some t => t.2.2 | none => 1
def ofL (r : Int) : Int := scanT r refTab

/-- Can a character be spelt? -/
def spelt (r : Int) : Bool := decide ((0 ≤ r ∧ r < 55296) ∨ (57343 < r ∧ r ≤ 1114111))
theorem wide_spelt {r : Int} (h : ofL r = 2) : spelt r = true := by
  unfold ofL scanT at h
  split at h
  · rename_i t ht
    have h1 := List.find?_some ht
    have h2 := List.mem_of_find?_eq_some ht
    have key : ∀ t ∈ refTab, t.2.2 = 2 → (0 ≤ t.1 ∧ t.2.1 < 55296) ∨ (57343 < t.1 ∧ t.2.1 ≤ 1114111) := by decide
    have h3 := key t h2 h
    simp only [inT, decide_eq_true_eq] at h1
    unfold spelt
    rw [decide_eq_true_eq]
    omega
  · cases h

def colorB (k n : Int) : Bool := decide ((k = 0 ∧ n = 0) ∨ (k = 1 ∧ n ≤ 255) ∨ (k = 2 ∧ n ≤ 16777215))
def rightB (a : Attr) : Bool := decide (a.f ≤ 255) && (colorB a.fk a.fn && colorB a.bk a.bn)
def singleB (c : Cell) : Bool := decide (c.w = 0) && (decide (ofL c.r = 1) && spelt c.r)
/-- Are two cells one wide character? -/
def oneB (a b : Cell) : Bool := decide (a.w = 1) && (decide (ofL a.r = 2) && decide (b = ⟨a.r, 2, a.a⟩))
def halvesB (L : List Cell) (i : Int) : Bool := decide (0 ≤ i) && (decide (i + 1 < L.length) && oneB (L.getD i.toNat cell0) (L.getD (i.toNat + 1) cell0))
def keepB (L : List Cell) (i : Nat) : Bool := singleB (L.getD i cell0) || (halvesB L i || halvesB L ((i : Int) - 1))
def rightC (c : Cell) : Cell := if rightB c.a then c else ⟨c.r, c.w, attr0⟩
def tidyC (L : List Cell) (i : Nat) : Cell := rightC (if keepB L i then L.getD i cell0 else blankC attr0)
def tidyL (L : List Cell) : List Cell := (List.range L.length).map (tidyC L)
def tidyP (L : List Cell) (k : Nat) : List Cell := (List.range k).map (tidyC L) ++ L.drop k
theorem tidyP_zero (L : List Cell) : tidyP L 0 = L := by simp [tidyP]
theorem tidyP_end (L : List Cell) : tidyP L L.length = tidyL L := by simp [tidyP, tidyL]
theorem tidyP_length (L : List Cell) (k : Nat) (h : k ≤ L.length) : (tidyP L k).length = L.length := by simp [tidyP]; omega
theorem tidyP_set {L : List Cell} {k : Nat} (h : k < L.length) : (tidyP L k).set k (tidyC L k) = tidyP L (k + 1) := by
  unfold tidyP
  rw [List.set_append_right _ _ (by simp), List.length_map, List.length_range, Nat.sub_self, List.drop_eq_getElem_cons h, List.set_cons_zero, List.range_succ, List.map_append]
  simp
theorem tidyP_get {L : List Cell} {k : Nat} (h : k < L.length) : (tidyP L k).getD k cell0 = L.getD k cell0 := by
  unfold tidyP
  simp only [List.getD_eq_getElem?_getD]
  rw [List.getElem?_append_right (by simp)]
  simp
theorem tidy_keep {L : List Cell} {k : Nat} (h : k < L.length) (hk : keepB L k = true) (hr : rightB (L.getD k cell0).a = true) : tidyP L (k + 1) = tidyP L k := by
  rw [← tidyP_set h]
  unfold tidyC rightC
  rw [if_pos hk, if_pos hr, ← tidyP_get h]
  apply List.ext_getElem (by simp)
  intro i h1 h2
  rw [List.getElem_set]
  split
  · rename_i e; subst e
    rw [List.getD_eq_getElem?_getD, List.getElem?_eq_getElem h2]; rfl
  · rfl
theorem tidy_attr {L : List Cell} {k : Nat} (h : k < L.length) (hk : keepB L k = true) (hr : rightB (L.getD k cell0).a = false) : tidyP L (k + 1) = (tidyP L k).set k ⟨(L.getD k cell0).r, (L.getD k cell0).w, attr0⟩ := by
  rw [← tidyP_set h]
  unfold tidyC rightC
  rw [if_pos hk, if_neg (show ¬ rightB (L.getD k cell0).a = true by rw [hr]; simp)]
theorem tidy_blank {L : List Cell} {k : Nat} (h : k < L.length) (hk : keepB L k = false) : tidyP L (k + 1) = (tidyP L k).set k (blankC attr0) := by
  rw [← tidyP_set h]
  unfold tidyC rightC
  rw [if_neg (show ¬ keepB L k = true by rw [hk]; simp), if_pos (show rightB (blankC attr0).a = true from rfl)]
theorem tidyL_length (L : List Cell) : (tidyL L).length = L.length := by simp [tidyL]
end Go.Proofs.YtfmldkjidfigbaaDoor
