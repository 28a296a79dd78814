import Derived.Test.YtfmldkjidfigbaaDoorJxW8
import Derived.Test.YtfmldkjidfigbaaDoorJxC25
import Derived.Test.YtfmldkjidfigbaaDoorJxW9
/- Compose, in plain Lean: lines made whole. -/
set_option linter.unusedSimpArgs false
set_option linter.unusedVariables false
set_option maxRecDepth 100000
namespace Go.Proofs.YtfmldkjidfigbaaDoor
open Go Go.Jx

def bnd : List (Int × Int) := [(0, 31), (127, 159), (768, 879), (1155, 1161), (1425, 1469), (1552, 1562), (1611, 1631), (4352, 4447), (8203, 8207), (8400, 8447), (11904, 12350), (12353, 13311), (13312, 19903), (19968, 40959), (40960, 42191), (44032, 55203), (63744, 64255), (65024, 65039), (65056, 65071), (65072, 65135), (65280, 65376), (65504, 65510), (127744, 128591), (129280, 129535), (131072, 262141), (917760, 917999)]
def refTab : List (Int × Int × Int) := [(0, 31, 0), (127, 159, 0), (768, 879, 0), (1155, 1161, 0), (1425, 1469, 0), (1552, 1562, 0), (1611, 1631, 0), (8203, 8207, 0), (8400, 8447, 0), (65024, 65039, 0), (65056, 65071, 0), (917760, 917999, 0), (4352, 4447, 2), (11904, 12350, 2), (12353, 13311, 2), (13312, 19903, 2), (19968, 40959, 2), (40960, 42191, 2), (44032, 55203, 2), (63744, 64255, 2), (65072, 65135, 2), (65280, 65376, 2), (65504, 65510, 2), (127744, 128591, 2), (129280, 129535, 2), (131072, 262141, 2)]
def inT (r : Int) (t : Int × Int × Int) : Bool := decide (t.1 ≤ r ∧ r ≤ t.2.1)
def scanT (r : Int) (l : List (Int × Int × Int)) : Int := match l.find? (inT r) with | some t => t.2.2 | none => 1
def ofL (r : Int) : Int := scanT r refTab

/-- Can a character be spelt? -/
def spelt (r : Int) : Bool := decide ((0 ≤ r ∧ r < 55296) ∨ (57343 < r ∧ r ≤ 1114111))
theorem wide_spelt {r : Int} (h : ofL r = 2) : spelt r = true := by
  unfold ofL scanT at h
  split at h
  · rename_i t ht
    have h1 := List.find?_some ht
    have h2 := List.mem_of_find?_eq_some ht
    have key : ∀ t ∈ refTab, t.2.2 = 2 → (0 ≤ t.1 ∧ t.2.1 < 55296) ∨ (57343 < t.1 ∧ t.2.1 ≤ 1114111) := by decide
    have h3 := key t h2 h
    simp only [inT, decide_eq_true_eq] at h1
    unfold spelt
    rw [decide_eq_true_eq]
    omega
  · cases h

def colorB (k n : Int) : Bool := decide ((k = 0 ∧ n = 0) ∨ (k = 1 ∧ n ≤ 255) ∨ (k = 2 ∧ n ≤ 16777215))
def rightB (a : Attr) : Bool := decide (a.f ≤ 255) && (colorB a.fk a.fn && colorB a.bk a.bn)
def singleB (c : Cell) : Bool := decide (c.w = 0) && (decide (ofL c.r = 1) && spelt c.r)
/-- Are two cells one wide character? -/
def oneB (a b : Cell) : Bool := decide (a.w = 1) && (decide (ofL a.r = 2) && decide (b = ⟨a.r, 2, a.a⟩))
def halvesB (L : List Cell) (i : Int) : Bool := decide (0 ≤ i) && (decide (i + 1 < L.length) && oneB (L.getD i.toNat cell0) (L.getD (i.toNat + 1) cell0))
def keepB (L : List Cell) (i : Nat) : Bool := singleB (L.getD i cell0) || (halvesB L i || halvesB L ((i : Int) - 1))
def rightC (c : Cell) : Cell := if rightB c.a then c else ⟨c.r, c.w, attr0⟩
def tidyC (L : List Cell) (i : Nat) : Cell := rightC (if keepB L i then L.getD i cell0 else blankC attr0)
def tidyL (L : List Cell) : List Cell := (List.range L.length).map (tidyC L)
def tidyP (L : List Cell) (k : Nat) : List Cell := (List.range k).map (tidyC L) ++ L.drop k
theorem tidyP_zero (L : List Cell) : tidyP L 0 = L := by simp [tidyP]
theorem tidyP_end (L : List Cell) : tidyP L L.length = tidyL L := by simp [tidyP, tidyL]
theorem tidyP_length (L : List Cell) (k : Nat) (h : k ≤ L.length) : (tidyP L k).length = L.length := by simp [tidyP]; omega
theorem tidyP_set {L : List Cell} {k : Nat} (h : k < L.length) : (tidyP L k).set k (tidyC L k) = tidyP L (k + 1) := by
  unfold tidyP
  rw [List.set_append_right _ _ (by simp), List.length_map, List.length_range, Nat.sub_self, List.drop_eq_getElem_cons h, List.set_cons_zero, List.range_succ, List.map_append]
  simp
theorem tidyP_get {L : List Cell} {k : Nat} (h : k < L.length) : (tidyP L k).getD k cell0 = L.getD k cell0 := by
  unfold tidyP
  simp only [List.getD_eq_getElem?_getD]
  rw [List.getElem?_append_right (by simp)]
  simp
theorem tidy_keep {L : List Cell} {k : Nat} (h : k < L.length) (hk : keepB L k = true) (hr : rightB (L.getD k cell0).a = true) : tidyP L (k + 1) = tidyP L k := by
  rw [← tidyP_set h]
  unfold tidyC rightC
  rw [if_pos hk, if_pos hr, ← tidyP_get h]
  apply List.ext_getElem (by simp)
  intro i h1 h2
  rw [List.getElem_set]
  split
  · rename_i e; subst e
    rw [List.getD_eq_getElem?_getD, List.getElem?_eq_getElem h2]; rfl
  · rfl
theorem tidy_attr {L : List Cell} {k : Nat} (h : k < L.length) (hk : keepB L k = true) (hr : rightB (L.getD k cell0).a = false) : tidyP L (k + 1) = (tidyP L k).set k ⟨(L.getD k cell0).r, (L.getD k cell0).w, attr0⟩ := by
  rw [← tidyP_set h]
  unfold tidyC rightC
  rw [if_pos hk, if_neg (show ¬ rightB (L.getD k cell0).a = true by rw [hr]; simp)]
theorem tidy_blank {L : List Cell} {k : Nat} (h : k < L.length) (hk : keepB L k = false) : tidyP L (k + 1) = (tidyP L k).set k (blankC attr0) := by
  rw [← tidyP_set h]
  unfold tidyC rightC
  rw [if_neg (show ¬ keepB L k = true by rw [hk]; simp), if_pos (show rightB (blankC attr0).a = true from rfl)]
theorem tidyL_length (L : List Cell) : (tidyL L).length = L.length := by simp [tidyL]
end Go.Proofs.YtfmldkjidfigbaaDoor
/- How many columns a character has: the program's halving search and the document's list answer alike. -/
set_option linter.unusedSimpArgs false
set_option linter.unusedVariables false
set_option maxHeartbeats 4000000
set_option maxRecDepth 100000
namespace Go.Proofs.YtfmldkjidfigbaaDoor
open Go Go.Jx

def encB (p : Int × Int) : List SV := [.int .i32 p.1, .int .i32 p.2]
def encT (p : Int × Int × Int) : List SV := [.int .i32 p.1, .int .i32 p.2.1, .int .i32 p.2.2]
def hits (r : Int) (k : Nat) : Prop := (bnd.getD k (0, 0)).1 ≤ r ∧ r ≤ (bnd.getD k (0, 0)).2
def valB (k : Nat) : Int := if (33948543 : Nat).testBit k then 0 else 2

theorem bnd_sorted : ∀ i, i < 26 → ∀ j, j < 26 → i < j → (bnd.getD i (0, 0)).2 < (bnd.getD j (0, 0)).1 := by decide
theorem bnd_own : ∀ i, i < 26 → (bnd.getD i (0, 0)).1 ≤ (bnd.getD i (0, 0)).2 := by decide
theorem bnd_ref : ∀ k, k < 26 → ((bnd.getD k (0, 0)).1, (bnd.getD k (0, 0)).2, valB k) ∈ refTab := by decide
theorem ref_bnd : ∀ t ∈ refTab, ∃ k, k < 26 ∧ t = ((bnd.getD k (0, 0)).1, (bnd.getD k (0, 0)).2, valB k) := by decide

theorem ofL_hit {r : Int} {k : Nat} (hk : k < 26) (h : hits r k) : ofL r = valB k := by
  unfold ofL scanT
  cases hf : refTab.find? (inT r) with
  | none =>
    have := List.find?_eq_none.1 hf _ (bnd_ref k hk)
    exact absurd (by simpa [inT, hits] using h) this
  | some t =>
    have h1 := List.find?_some hf
    obtain ⟨j, hj, rfl⟩ := ref_bnd t (List.mem_of_find?_eq_some hf)
    simp only [inT, decide_eq_true_eq] at h1
    have : j = k := by
      rcases Nat.lt_trichotomy j k with hlt | he | hlt
      · have := bnd_sorted j hj k hk hlt; unfold hits at h; omega
      · exact he
      · have := bnd_sorted k hk j hj hlt; unfold hits at h; omega
    rw [this]

theorem ofL_miss {r : Int} (h : ∀ k, k < 26 → ¬ hits r k) : ofL r = 1 := by
  unfold ofL scanT
  cases hf : refTab.find? (inT r) with
  | none => rfl
  | some t =>
    have h1 := List.find?_some hf
    obtain ⟨j, hj, rfl⟩ := ref_bnd t (List.mem_of_find?_eq_some hf)
    simp only [inT, decide_eq_true_eq] at h1
    exact absurd h1 (h j hj)

/-- Nothing outside of low to high is hit. -/
def apart (r low high : Int) : Prop := ∀ k : Nat, k < 26 → ((k : Int) < low ∨ high ≤ k) → ¬ hits r k

theorem apart_high {r low high mid : Int} (h : apart r low high) (h0 : 0 ≤ mid) (h1 : mid < 26) (hr : r < (bnd.getD mid.toNat (0, 0)).1) : apart r low mid := by
  intro k hk hh
  rcases hh with hh | hh
  · exact h k hk (.inl hh)
  · intro hx
    unfold hits at hx
    by_cases he : k = mid.toNat
    · rw [he] at hx; omega
    · have := bnd_sorted mid.toNat (by omega) k hk (by omega)
      have := bnd_own mid.toNat (by omega)
      omega
theorem apart_low {r low high mid : Int} (h : apart r low high) (h0 : 0 ≤ mid) (h1 : mid < 26) (hr : (bnd.getD mid.toNat (0, 0)).2 < r) : apart r (mid + 1) high := by
  intro k hk hh
  rcases hh with hh | hh
  · intro hx
    unfold hits at hx
    by_cases he : k = mid.toNat
    · rw [he] at hx; omega
    · have := bnd_sorted k hk mid.toNat (by omega) (by omega)
      have := bnd_own mid.toNat (by omega)
      omega
  · exact h k hk (.inr hh)

theorem bnd_get {i : Int} (h0 : 0 ≤ i) (hi : i < 26) {f : Nat} {s : SV} (hs : (encB (bnd.getD i.toNat (0, 0)))[f]? = some s) : (bnd.flatMap encB)[0 + i.toNat * 2 + f * 1]? = some s := by
  have hl : i.toNat < bnd.length := by show i.toNat < 26; omega
  rw [Nat.zero_add, Nat.mul_one, List.flatMap_def]
  refine getElem?_flatten (n := 2) (by intro c hc; obtain ⟨r, _, rfl⟩ := List.mem_map.1 hc; rfl) (c := encB (bnd.getD i.toNat (0, 0))) ?_ hs
  rw [List.getElem?_map, List.getElem?_eq_getElem hl, List.getD_eq_getElem?_getD, List.getElem?_eq_getElem hl]; rfl

/-- The variable 'bounds' is there. -/
def HasB (h : Heap) : Prop := ∃ t, h.get 0 = some (.cells t .ro (bnd.flatMap encB))

def IOf (r : Int) (h : Heap) : Nat → List AV → Heap → Prop := fun n e h' => ∃ (low high : Int), EnvIs 35 [(0, .sc (.int .i32 r)), (3, .sc (.int .i64 low)), (4, .sc (.int .i64 high))] e ∧ 0 ≤ low ∧ low ≤ 26 ∧ 0 ≤ high ∧ high ≤ 26 ∧ n = (high - low).toNat ∧ h' = h ∧ apart r low high

theorem tdiv2 {a : Int} (h : 0 ≤ a) : a.tdiv 2 = a / 2 := Int.tdiv_eq_ediv_of_nonneg h

theorem bit_ok : ∀ k, k < 26 → ((IntKind.i64.wrap (BitVec.ofInt 64 (Int.fdiv 33948543 (2 ^ (Min.min k 64))) &&& BitVec.ofInt 64 1).toNat == (1 : Int)) = (33948543 : Nat).testBit k) := by decide

theorem w22_0 (r : Int) (h : Heap) (hb : HasB h) : W DD (.call 22 [.sc (.int .i32 r)] h) (fun _ vs h' => ∃ v, vs = [v] ∧ v = .sc (.int .i64 (ofL r)) ∧ h' = h) := by
  obtain ⟨tb, hb⟩ := hb
  refine W_enter d22 ?_
  show W _ (.code m22_code [.sc (.int .i32 r), undefA, undefA, undefA, undefA, undefA, undefA, undefA, undefA, undefA, undefA, undefA, undefA, undefA, undefA, undefA, undefA, undefA, undefA, undefA, undefA, undefA, undefA, undefA, undefA, undefA, undefA, undefA, undefA, undefA, undefA, undefA, undefA, undefA, undefA] _) _
  unfold m22_code
  repeat' (first
    | refine W_fast rfl ?_
    | refine W_seq ?_
    | refine W_ops ?_
    | refine W_nil ?_
    | refine seqK_n ?_
    | refine seqK_r ?_
    | refine seqK_x ?_
    | refine blockK_r ?_
    | refine blockK_n ?_
    | refine blockK_e ?_
    | refine blockK_x rfl ?_
    | refine loopK_x ?_
    | refine loopK_r ?_
    | refine invK_x ?_
    | refine invK_r ?_
    | refine invK_n ?_
    | refine W_guard_on rfl ?_
    | refine W_guard_off rfl rfl (W_norm rfl ?_)
    | refine W_guard_u rfl (W_norm rfl ?_)
    | refine W_pick_t rfl rfl (W_norm rfl ?_)
    | refine W_pick_f rfl rfl (W_norm rfl ?_)
    | refine W_skip ?_
    | refine W_ret ?_
    | refine W_exit ?_
    | refine W_cond_t rfl ?_
    | refine W_cond_f rfl ?_
    | refine W_block ?_
    | refine W_draw rfl ?_
    | refine W_add rfl rfl (IntWalk.i64_in _ (by omega)) (W_norm rfl ?_)
    | refine W_add rfl rfl (IntWalk.i32_in _ (by omega)) (W_norm rfl ?_)
    | refine W_add rfl rfl (IntWalk.u8_in _ (by omega)) (W_norm rfl ?_)
    | refine W_sub rfl rfl (IntWalk.i64_in _ (by omega)) (W_norm rfl ?_)
    | refine W_sub rfl rfl (IntWalk.i32_in _ (by omega)) (W_norm rfl ?_)
    | refine W_sub rfl rfl (IntWalk.u8_in _ (by omega)) (W_norm rfl ?_)
    | refine W_mul rfl rfl (IntWalk.i64_in _ (by omega)) (W_norm rfl ?_)
    | refine W_mul rfl rfl (IntWalk.i32_in _ (by omega)) (W_norm rfl ?_)
    | refine W_mul rfl rfl (IntWalk.u8_in _ (by omega)) (W_norm rfl ?_)
    | refine W_convint rfl (IntWalk.i64_in _ (by omega)) (W_norm rfl ?_)
    | refine W_convint rfl (IntWalk.i32_in _ (by omega)) (W_norm rfl ?_)
    | refine W_convint rfl (IntWalk.u8_in _ (by omega)) (W_norm rfl ?_)
    | refine W_div rfl rfl (by omega) (W_norm rfl ?_)
    | refine W_mod rfl rfl (by omega) (W_norm rfl ?_)
    | refine W_indexSlice rfl rfl ⟨by omega, by omega⟩ (W_norm rfl ?_)
    | refine W_indexArr rfl rfl ⟨by omega, by omega⟩ (W_norm rfl ?_)
    | refine W_alloc (W_norm rfl ?_)
    | (refine W_guardT rfl (fun hc => ?_) (fun hc => ?_) <;> (try rw [hc]) <;> (try simp only [decide_eq_true_eq, decide_eq_false_iff_not, beq_iff_eq, beq_eq_false_iff_ne, bne_iff_ne, bne_eq_false_iff_eq, Bool.not_eq_true', Bool.not_eq_false', Int.not_lt, Int.not_le, ne_eq, reduceCtorEq, not_true_eq_false, not_false_eq_true, Decidable.not_not] at hc) <;> (try (exfalso; omega)) <;> (try refine W_norm rfl ?_))
    | (refine W_guardF rfl (fun hc => ?_) (fun hc => ?_) <;> (try rw [hc]) <;> (try simp only [decide_eq_true_eq, decide_eq_false_iff_not, beq_iff_eq, beq_eq_false_iff_ne, bne_iff_ne, bne_eq_false_iff_eq, Bool.not_eq_true', Bool.not_eq_false', Int.not_lt, Int.not_le, ne_eq, reduceCtorEq, not_true_eq_false, not_false_eq_true, Decidable.not_not] at hc) <;> (try (exfalso; omega)) <;> (try refine W_norm rfl ?_))
    | (refine W_cond rfl (fun hc => ?_) (fun hc => ?_) <;> (try rw [hc]) <;> (try simp only [decide_eq_true_eq, decide_eq_false_iff_not, beq_iff_eq, beq_eq_false_iff_ne, bne_iff_ne, bne_eq_false_iff_eq, Bool.not_eq_true', Bool.not_eq_false', Int.not_lt, Int.not_le, ne_eq, reduceCtorEq, not_true_eq_false, not_false_eq_true, Decidable.not_not] at hc) <;> (try (exfalso; omega)) <;> (try refine W_norm rfl ?_))
    | (refine W_pick rfl (fun hc => ?_) (fun hc => ?_) <;> (try rw [hc]) <;> (try simp only [decide_eq_true_eq, decide_eq_false_iff_not, beq_iff_eq, beq_eq_false_iff_ne, bne_iff_ne, bne_eq_false_iff_eq, Bool.not_eq_true', Bool.not_eq_false', Int.not_lt, Int.not_le, ne_eq, reduceCtorEq, not_true_eq_false, not_false_eq_true, Decidable.not_not] at hc) <;> (try (exfalso; omega)) <;> (try refine W_norm rfl ?_))
    | refine W_add rfl rfl rfl (W_norm rfl ?_)
    | refine W_sub rfl rfl rfl (W_norm rfl ?_)
    | refine W_mul rfl rfl rfl (W_norm rfl ?_)
    | (refine fnK_r rfl ?_; try dsimp only [gd_z, gd_s])
    | (refine fnK_n rfl ?_; try dsimp only [gd_z, gd_s]))
  refine W_loop (IOf r h) 26 ⟨0, 26, ⟨rfl, rfl, rfl, rfl, trivial⟩, by omega, by omega, by omega, by omega, by omega, rfl, by intro k hk hh; omega⟩ ?_
  rintro n _ _ ⟨low, high, he, h1, h2, h3, h4, rfl, rfl, ha⟩
  obtain ⟨us, rfl⟩ := he.list
  show W _ (.code _ [.sc (.int .i32 r), us 1, us 2, .sc (.int .i64 low), .sc (.int .i64 high), us 5, us 6, us 7, us 8, us 9, us 10, us 11, us 12, us 13, us 14, us 15, us 16, us 17, us 18, us 19, us 20, us 21, us 22, us 23, us 24, us 25, us 26, us 27, us 28, us 29, us 30, us 31, us 32, us 33, us 34] _) _
  unfold m22_l2
  repeat' (first
    | refine W_fast rfl ?_
    | refine W_load_sc rfl hb (bnd_get (by omega) (by omega) (f := 0) rfl) (W_norm rfl ?_)
    | refine W_load_sc rfl hb (bnd_get (by omega) (by omega) (f := 1) rfl) (W_norm rfl ?_)
    | refine W_shr rfl rfl (by omega) (W_norm rfl ?_)
    | refine W_and rfl rfl (W_norm rfl ?_)
    | refine W_seq ?_
    | refine W_ops ?_
    | refine W_nil ?_
    | refine seqK_n ?_
    | refine seqK_r ?_
    | refine seqK_x ?_
    | refine blockK_r ?_
    | refine blockK_n ?_
    | refine blockK_e ?_
    | refine blockK_x rfl ?_
    | refine loopK_x ?_
    | refine loopK_r ?_
    | refine invK_x ?_
    | refine invK_r ?_
    | refine invK_n ?_
    | refine W_guard_on rfl ?_
    | refine W_guard_off rfl rfl (W_norm rfl ?_)
    | refine W_guard_u rfl (W_norm rfl ?_)
    | refine W_pick_t rfl rfl (W_norm rfl ?_)
    | refine W_pick_f rfl rfl (W_norm rfl ?_)
    | refine W_skip ?_
    | refine W_ret ?_
    | refine W_exit ?_
    | refine W_cond_t rfl ?_
    | refine W_cond_f rfl ?_
    | refine W_block ?_
    | refine W_draw rfl ?_
    | refine W_add rfl rfl (IntWalk.i64_in _ (by omega)) (W_norm rfl ?_)
    | refine W_add rfl rfl (IntWalk.i32_in _ (by omega)) (W_norm rfl ?_)
    | refine W_add rfl rfl (IntWalk.u8_in _ (by omega)) (W_norm rfl ?_)
    | refine W_sub rfl rfl (IntWalk.i64_in _ (by omega)) (W_norm rfl ?_)
    | refine W_sub rfl rfl (IntWalk.i32_in _ (by omega)) (W_norm rfl ?_)
    | refine W_sub rfl rfl (IntWalk.u8_in _ (by omega)) (W_norm rfl ?_)
    | refine W_mul rfl rfl (IntWalk.i64_in _ (by omega)) (W_norm rfl ?_)
    | refine W_mul rfl rfl (IntWalk.i32_in _ (by omega)) (W_norm rfl ?_)
    | refine W_mul rfl rfl (IntWalk.u8_in _ (by omega)) (W_norm rfl ?_)
    | refine W_convint rfl (IntWalk.i64_in _ (by omega)) (W_norm rfl ?_)
    | refine W_convint rfl (IntWalk.i32_in _ (by omega)) (W_norm rfl ?_)
    | refine W_convint rfl (IntWalk.u8_in _ (by omega)) (W_norm rfl ?_)
    | refine W_div rfl rfl (by omega) (W_norm rfl ?_)
    | refine W_mod rfl rfl (by omega) (W_norm rfl ?_)
    | refine W_indexSlice rfl rfl ⟨by omega, by omega⟩ (W_norm rfl ?_)
    | refine W_indexArr rfl rfl ⟨by omega, by omega⟩ (W_norm rfl ?_)
    | refine W_alloc (W_norm rfl ?_)
    | (refine W_guardT rfl (fun hc => ?_) (fun hc => ?_) <;> (try rw [hc]) <;> (try simp only [decide_eq_true_eq, decide_eq_false_iff_not, beq_iff_eq, beq_eq_false_iff_ne, bne_iff_ne, bne_eq_false_iff_eq, Bool.not_eq_true', Bool.not_eq_false', Int.not_lt, Int.not_le, ne_eq, reduceCtorEq, not_true_eq_false, not_false_eq_true, Decidable.not_not] at hc) <;> (try (exfalso; omega)) <;> (try refine W_norm rfl ?_))
    | (refine W_guardF rfl (fun hc => ?_) (fun hc => ?_) <;> (try rw [hc]) <;> (try simp only [decide_eq_true_eq, decide_eq_false_iff_not, beq_iff_eq, beq_eq_false_iff_ne, bne_iff_ne, bne_eq_false_iff_eq, Bool.not_eq_true', Bool.not_eq_false', Int.not_lt, Int.not_le, ne_eq, reduceCtorEq, not_true_eq_false, not_false_eq_true, Decidable.not_not] at hc) <;> (try (exfalso; omega)) <;> (try refine W_norm rfl ?_))
    | (refine W_cond rfl (fun hc => ?_) (fun hc => ?_) <;> (try rw [hc]) <;> (try simp only [decide_eq_true_eq, decide_eq_false_iff_not, beq_iff_eq, beq_eq_false_iff_ne, bne_iff_ne, bne_eq_false_iff_eq, Bool.not_eq_true', Bool.not_eq_false', Int.not_lt, Int.not_le, ne_eq, reduceCtorEq, not_true_eq_false, not_false_eq_true, Decidable.not_not] at hc) <;> (try (exfalso; omega)) <;> (try refine W_norm rfl ?_))
    | (refine W_pick rfl (fun hc => ?_) (fun hc => ?_) <;> (try rw [hc]) <;> (try simp only [decide_eq_true_eq, decide_eq_false_iff_not, beq_iff_eq, beq_eq_false_iff_ne, bne_iff_ne, bne_eq_false_iff_eq, Bool.not_eq_true', Bool.not_eq_false', Int.not_lt, Int.not_le, ne_eq, reduceCtorEq, not_true_eq_false, not_false_eq_true, Decidable.not_not] at hc) <;> (try (exfalso; omega)) <;> (try refine W_norm rfl ?_))
    | refine W_add rfl rfl rfl (W_norm rfl ?_)
    | refine W_sub rfl rfl rfl (W_norm rfl ?_)
    | refine W_mul rfl rfl rfl (W_norm rfl ?_)
    | (refine fnK_r rfl ?_; try dsimp only [gd_z, gd_s])
    | (refine fnK_n rfl ?_; try dsimp only [gd_z, gd_s]))
  · exact ⟨_, by omega, low, (low + high) / 2, ⟨rfl, rfl, rfl, rfl, trivial⟩, by omega, by omega, by omega, by omega, rfl, rfl, apart_high ha (by omega) (by omega) hc⟩
  · exact ⟨_, by omega, (low + high) / 2 + 1, high, ⟨rfl, rfl, rfl, rfl, trivial⟩, by omega, by omega, by omega, by omega, rfl, rfl, apart_low ha (by omega) (by omega) hc⟩
  · refine ⟨_, rfl, ?_, rfl⟩
    have hk : ((low + high) / 2).toNat < 26 := by omega
    rw [ofL_hit hk ⟨by assumption, by assumption⟩]
    have hb2 := bit_ok _ hk
    unfold valB
    rw [← hb2]
    have : (IntKind.i64.wrap (BitVec.ofInt 64 (Int.fdiv 33948543 (2 ^ (Min.min ((low + high) / 2).toNat 64))) &&& BitVec.ofInt 64 1).toNat == (1 : Int)) = true := by rw [beq_iff_eq]; exact hc
    rw [this]; rfl
  · refine ⟨_, rfl, ?_, rfl⟩
    have hk : ((low + high) / 2).toNat < 26 := by omega
    rw [ofL_hit hk ⟨by assumption, by assumption⟩]
    have hb2 := bit_ok _ hk
    unfold valB
    rw [← hb2]
    have : (IntKind.i64.wrap (BitVec.ofInt 64 (Int.fdiv 33948543 (2 ^ (Min.min ((low + high) / 2).toNat 64))) &&& BitVec.ofInt 64 1).toNat == (1 : Int)) = false := by rw [beq_eq_false_iff_ne]; exact hc
    rw [this]; rfl
  · refine ⟨_, rfl, ?_, rfl⟩
    rw [ofL_miss (fun k hk => ha k hk (by omega))]

/-! ## the document's -/

theorem ref_get {i : Int} (h0 : 0 ≤ i) {t : Int × Int × Int} (ht : refTab[i.toNat]? = some t) {f : Nat} {s : SV} (hs : (encT t)[f]? = some s) : (refTab.flatMap encT)[0 + i.toNat * 3 + f * 1]? = some s := by
  rw [Nat.zero_add, Nat.mul_one, List.flatMap_def]
  exact getElem?_flatten (n := 3) (by intro c hc; obtain ⟨r, _, rfl⟩ := List.mem_map.1 hc; rfl) (by rw [List.getElem?_map, ht]; rfl) hs

theorem scan_step {r : Int} {i : Nat} {t : Int × Int × Int} (ht : refTab[i]? = some t) : scanT r (refTab.drop i) = if inT r t then t.2.2 else scanT r (refTab.drop (i + 1)) := by
  obtain ⟨hi, rfl⟩ := List.getElem?_eq_some_iff.1 ht
  rw [List.drop_eq_getElem_cons hi]
  unfold scanT
  rw [List.find?_cons]
  cases inT r (refTab[i]'hi) <;> rfl

theorem ref_vals : ∀ t ∈ refTab, 0 ≤ t.2.2 ∧ t.2.2 ≤ 2 := by decide

def hTab (h : Heap) : Heap := h.push (.cells 77 .own (refTab.flatMap encT))

def IRef (r : Int) (h : Heap) : Nat → List AV → Heap → Prop := fun n e h' => ∃ (i : Int), EnvIs 60 [(0, .sc (.int .i32 r)), (3, .sc (.slice h.n 0 26 26)), (4, .sc (.int .i64 i))] e ∧ 0 ≤ i ∧ i ≤ 26 ∧ n = (26 - i).toNat ∧ h' = hTab h ∧ scanT r (refTab.drop i.toNat) = ofL r

theorem w27_0 (r : Int) (h : Heap) : W DD (.call 27 [.sc (.int .i32 r)] h) (fun _ vs h' => ∃ v, vs = [v] ∧ v = .sc (.int .i64 (ofL r)) ∧ h' = hTab h) := by
  refine W_enter d27 ?_
  show W _ (.code m27_code [.sc (.int .i32 r), undefA, undefA, undefA, undefA, undefA, undefA, undefA, undefA, undefA, undefA, undefA, undefA, undefA, undefA, undefA, undefA, undefA, undefA, undefA, undefA, undefA, undefA, undefA, undefA, undefA, undefA, undefA, undefA, undefA, undefA, undefA, undefA, undefA, undefA, undefA, undefA, undefA, undefA, undefA, undefA, undefA, undefA, undefA, undefA, undefA, undefA, undefA, undefA, undefA, undefA, undefA, undefA, undefA, undefA, undefA, undefA, undefA, undefA, undefA] _) _
  unfold m27_code
  repeat' (first
    | refine W_fast rfl ?_
    | refine W_buildSlice (cs := refTab.flatMap encT) (by kernel_rfl) (W_norm rfl ?_)
    | refine W_seq ?_
    | refine W_ops ?_
    | refine W_nil ?_
    | refine seqK_n ?_
    | refine seqK_r ?_
    | refine seqK_x ?_
    | refine blockK_r ?_
    | refine blockK_n ?_
    | refine blockK_e ?_
    | refine blockK_x rfl ?_
    | refine loopK_x ?_
    | refine loopK_r ?_
    | refine invK_x ?_
    | refine invK_r ?_
    | refine invK_n ?_
    | refine W_guard_on rfl ?_
    | refine W_guard_off rfl rfl (W_norm rfl ?_)
    | refine W_guard_u rfl (W_norm rfl ?_)
    | refine W_pick_t rfl rfl (W_norm rfl ?_)
    | refine W_pick_f rfl rfl (W_norm rfl ?_)
    | refine W_skip ?_
    | refine W_ret ?_
    | refine W_exit ?_
    | refine W_cond_t rfl ?_
    | refine W_cond_f rfl ?_
    | refine W_block ?_
    | refine W_draw rfl ?_
    | refine W_add rfl rfl (IntWalk.i64_in _ (by omega)) (W_norm rfl ?_)
    | refine W_add rfl rfl (IntWalk.i32_in _ (by omega)) (W_norm rfl ?_)
    | refine W_add rfl rfl (IntWalk.u8_in _ (by omega)) (W_norm rfl ?_)
    | refine W_sub rfl rfl (IntWalk.i64_in _ (by omega)) (W_norm rfl ?_)
    | refine W_sub rfl rfl (IntWalk.i32_in _ (by omega)) (W_norm rfl ?_)
    | refine W_sub rfl rfl (IntWalk.u8_in _ (by omega)) (W_norm rfl ?_)
    | refine W_mul rfl rfl (IntWalk.i64_in _ (by omega)) (W_norm rfl ?_)
    | refine W_mul rfl rfl (IntWalk.i32_in _ (by omega)) (W_norm rfl ?_)
    | refine W_mul rfl rfl (IntWalk.u8_in _ (by omega)) (W_norm rfl ?_)
    | refine W_convint rfl (IntWalk.i64_in _ (by omega)) (W_norm rfl ?_)
    | refine W_convint rfl (IntWalk.i32_in _ (by omega)) (W_norm rfl ?_)
    | refine W_convint rfl (IntWalk.u8_in _ (by omega)) (W_norm rfl ?_)
    | refine W_div rfl rfl (by omega) (W_norm rfl ?_)
    | refine W_mod rfl rfl (by omega) (W_norm rfl ?_)
    | refine W_indexSlice rfl rfl ⟨by omega, by omega⟩ (W_norm rfl ?_)
    | refine W_indexArr rfl rfl ⟨by omega, by omega⟩ (W_norm rfl ?_)
    | refine W_alloc (W_norm rfl ?_)
    | (refine W_guardT rfl (fun hc => ?_) (fun hc => ?_) <;> (try rw [hc]) <;> (try simp only [decide_eq_true_eq, decide_eq_false_iff_not, beq_iff_eq, beq_eq_false_iff_ne, bne_iff_ne, bne_eq_false_iff_eq, Bool.not_eq_true', Bool.not_eq_false', Int.not_lt, Int.not_le, ne_eq, reduceCtorEq, not_true_eq_false, not_false_eq_true, Decidable.not_not] at hc) <;> (try (exfalso; omega)) <;> (try refine W_norm rfl ?_))
    | (refine W_guardF rfl (fun hc => ?_) (fun hc => ?_) <;> (try rw [hc]) <;> (try simp only [decide_eq_true_eq, decide_eq_false_iff_not, beq_iff_eq, beq_eq_false_iff_ne, bne_iff_ne, bne_eq_false_iff_eq, Bool.not_eq_true', Bool.not_eq_false', Int.not_lt, Int.not_le, ne_eq, reduceCtorEq, not_true_eq_false, not_false_eq_true, Decidable.not_not] at hc) <;> (try (exfalso; omega)) <;> (try refine W_norm rfl ?_))
    | (refine W_cond rfl (fun hc => ?_) (fun hc => ?_) <;> (try rw [hc]) <;> (try simp only [decide_eq_true_eq, decide_eq_false_iff_not, beq_iff_eq, beq_eq_false_iff_ne, bne_iff_ne, bne_eq_false_iff_eq, Bool.not_eq_true', Bool.not_eq_false', Int.not_lt, Int.not_le, ne_eq, reduceCtorEq, not_true_eq_false, not_false_eq_true, Decidable.not_not] at hc) <;> (try (exfalso; omega)) <;> (try refine W_norm rfl ?_))
    | (refine W_pick rfl (fun hc => ?_) (fun hc => ?_) <;> (try rw [hc]) <;> (try simp only [decide_eq_true_eq, decide_eq_false_iff_not, beq_iff_eq, beq_eq_false_iff_ne, bne_iff_ne, bne_eq_false_iff_eq, Bool.not_eq_true', Bool.not_eq_false', Int.not_lt, Int.not_le, ne_eq, reduceCtorEq, not_true_eq_false, not_false_eq_true, Decidable.not_not] at hc) <;> (try (exfalso; omega)) <;> (try refine W_norm rfl ?_))
    | refine W_add rfl rfl rfl (W_norm rfl ?_)
    | refine W_sub rfl rfl rfl (W_norm rfl ?_)
    | refine W_mul rfl rfl rfl (W_norm rfl ?_)
    | (refine fnK_r rfl ?_; try dsimp only [gd_z, gd_s])
    | (refine fnK_n rfl ?_; try dsimp only [gd_z, gd_s]))
  refine W_loop (IRef r h) 26 ⟨0, ⟨rfl, rfl, rfl, rfl, trivial⟩, by omega, by omega, by omega, rfl, rfl⟩ ?_
  rintro n _ _ ⟨i, he, h1, h2, rfl, rfl, hs⟩
  obtain ⟨us, rfl⟩ := he.list
  show W _ (.code _ [.sc (.int .i32 r), us 1, us 2, .sc (.slice h.n 0 26 26), .sc (.int .i64 i), us 5, us 6, us 7, us 8, us 9, us 10, us 11, us 12, us 13, us 14, us 15, us 16, us 17, us 18, us 19, us 20, us 21, us 22, us 23, us 24, us 25, us 26, us 27, us 28, us 29, us 30, us 31, us 32, us 33, us 34, us 35, us 36, us 37, us 38, us 39, us 40, us 41, us 42, us 43, us 44, us 45, us 46, us 47, us 48, us 49, us 50, us 51, us 52, us 53, us 54, us 55, us 56, us 57, us 58, us 59] _) _
  unfold m27_l3
  by_cases hlt : i < 26
  · have hk : i.toNat < refTab.length := by show i.toNat < 26; omega
    obtain ⟨t, ht⟩ : ∃ t, refTab[i.toNat]? = some t := ⟨_, List.getElem?_eq_getElem hk⟩
    have hrow := fun f s => @ref_get i h1 t ht f s
    have hval := ref_vals t (List.mem_of_getElem? ht)
    rw [scan_step ht] at hs
    repeat' (first
      | refine W_fast rfl ?_
      | refine W_lenSl (Sl.whole (enc := encT) (n := 3) (L := refTab) (fun _ => rfl) (Heap.get_push_new _ _)) rfl (W_norm rfl ?_)
      | refine W_load_sc rfl (Heap.get_push_new _ _) (hrow 0 _ rfl) (W_norm rfl ?_)
      | refine W_load_sc rfl (Heap.get_push_new _ _) (hrow 1 _ rfl) (W_norm rfl ?_)
      | refine W_load_sc rfl (Heap.get_push_new _ _) (hrow 2 _ rfl) (W_norm rfl ?_)
      | refine W_seq ?_
      | refine W_ops ?_
      | refine W_nil ?_
      | refine seqK_n ?_
      | refine seqK_r ?_
      | refine seqK_x ?_
      | refine blockK_r ?_
      | refine blockK_n ?_
      | refine blockK_e ?_
      | refine blockK_x rfl ?_
      | refine loopK_x ?_
      | refine loopK_r ?_
      | refine invK_x ?_
      | refine invK_r ?_
      | refine invK_n ?_
      | refine W_guard_on rfl ?_
      | refine W_guard_off rfl rfl (W_norm rfl ?_)
      | refine W_guard_u rfl (W_norm rfl ?_)
      | refine W_pick_t rfl rfl (W_norm rfl ?_)
      | refine W_pick_f rfl rfl (W_norm rfl ?_)
      | refine W_skip ?_
      | refine W_ret ?_
      | refine W_exit ?_
      | refine W_cond_t rfl ?_
      | refine W_cond_f rfl ?_
      | refine W_block ?_
      | refine W_draw rfl ?_
      | refine W_add rfl rfl (IntWalk.i64_in _ (by omega)) (W_norm rfl ?_)
      | refine W_add rfl rfl (IntWalk.i32_in _ (by omega)) (W_norm rfl ?_)
      | refine W_add rfl rfl (IntWalk.u8_in _ (by omega)) (W_norm rfl ?_)
      | refine W_sub rfl rfl (IntWalk.i64_in _ (by omega)) (W_norm rfl ?_)
      | refine W_sub rfl rfl (IntWalk.i32_in _ (by omega)) (W_norm rfl ?_)
      | refine W_sub rfl rfl (IntWalk.u8_in _ (by omega)) (W_norm rfl ?_)
      | refine W_mul rfl rfl (IntWalk.i64_in _ (by omega)) (W_norm rfl ?_)
      | refine W_mul rfl rfl (IntWalk.i32_in _ (by omega)) (W_norm rfl ?_)
      | refine W_mul rfl rfl (IntWalk.u8_in _ (by omega)) (W_norm rfl ?_)
      | refine W_convint rfl (IntWalk.i64_in _ (by omega)) (W_norm rfl ?_)
      | refine W_convint rfl (IntWalk.i32_in _ (by omega)) (W_norm rfl ?_)
      | refine W_convint rfl (IntWalk.u8_in _ (by omega)) (W_norm rfl ?_)
      | refine W_div rfl rfl (by omega) (W_norm rfl ?_)
      | refine W_mod rfl rfl (by omega) (W_norm rfl ?_)
      | refine W_indexSlice rfl rfl ⟨by omega, by omega⟩ (W_norm rfl ?_)
      | refine W_indexArr rfl rfl ⟨by omega, by omega⟩ (W_norm rfl ?_)
      | refine W_alloc (W_norm rfl ?_)
      | (refine W_guardT rfl (fun hc => ?_) (fun hc => ?_) <;> (try rw [hc]) <;> (try simp only [decide_eq_true_eq, decide_eq_false_iff_not, beq_iff_eq, beq_eq_false_iff_ne, bne_iff_ne, bne_eq_false_iff_eq, Bool.not_eq_true', Bool.not_eq_false', Int.not_lt, Int.not_le, ne_eq, reduceCtorEq, not_true_eq_false, not_false_eq_true, Decidable.not_not] at hc) <;> (try (exfalso; omega)) <;> (try refine W_norm rfl ?_))
      | (refine W_guardF rfl (fun hc => ?_) (fun hc => ?_) <;> (try rw [hc]) <;> (try simp only [decide_eq_true_eq, decide_eq_false_iff_not, beq_iff_eq, beq_eq_false_iff_ne, bne_iff_ne, bne_eq_false_iff_eq, Bool.not_eq_true', Bool.not_eq_false', Int.not_lt, Int.not_le, ne_eq, reduceCtorEq, not_true_eq_false, not_false_eq_true, Decidable.not_not] at hc) <;> (try (exfalso; omega)) <;> (try refine W_norm rfl ?_))
      | (refine W_cond rfl (fun hc => ?_) (fun hc => ?_) <;> (try rw [hc]) <;> (try simp only [decide_eq_true_eq, decide_eq_false_iff_not, beq_iff_eq, beq_eq_false_iff_ne, bne_iff_ne, bne_eq_false_iff_eq, Bool.not_eq_true', Bool.not_eq_false', Int.not_lt, Int.not_le, ne_eq, reduceCtorEq, not_true_eq_false, not_false_eq_true, Decidable.not_not] at hc) <;> (try (exfalso; omega)) <;> (try refine W_norm rfl ?_))
      | (refine W_pick rfl (fun hc => ?_) (fun hc => ?_) <;> (try rw [hc]) <;> (try simp only [decide_eq_true_eq, decide_eq_false_iff_not, beq_iff_eq, beq_eq_false_iff_ne, bne_iff_ne, bne_eq_false_iff_eq, Bool.not_eq_true', Bool.not_eq_false', Int.not_lt, Int.not_le, ne_eq, reduceCtorEq, not_true_eq_false, not_false_eq_true, Decidable.not_not] at hc) <;> (try (exfalso; omega)) <;> (try refine W_norm rfl ?_))
      | refine W_add rfl rfl rfl (W_norm rfl ?_)
      | refine W_sub rfl rfl rfl (W_norm rfl ?_)
      | refine W_mul rfl rfl rfl (W_norm rfl ?_)
      | (refine fnK_r rfl ?_; try dsimp only [gd_z, gd_s])
      | (refine fnK_n rfl ?_; try dsimp only [gd_z, gd_s]))
    · refine ⟨_, rfl, ?_, rfl⟩
      rw [← hs, if_pos (by simp [inT]; omega)]
    · rw [if_neg (by simp [inT]; omega)] at hs
      exact ⟨_, by omega, i + 1, ⟨rfl, rfl, rfl, rfl, trivial⟩, by omega, by omega, rfl, rfl, by rw [show (i + 1).toNat = i.toNat + 1 by omega]; exact hs⟩
    · rw [if_neg (by simp [inT]; omega)] at hs
      exact ⟨_, by omega, i + 1, ⟨rfl, rfl, rfl, rfl, trivial⟩, by omega, by omega, rfl, rfl, by rw [show (i + 1).toNat = i.toNat + 1 by omega]; exact hs⟩
  · have hlen : ((refTab.length : Nat) : Int) = 26 := rfl
    repeat' (first
      | refine W_fast rfl ?_
      | refine W_lenSl (Sl.whole (enc := encT) (n := 3) (L := refTab) (fun _ => rfl) (Heap.get_push_new _ _)) rfl (W_norm rfl ?_)
      | refine W_seq ?_
      | refine W_ops ?_
      | refine W_nil ?_
      | refine seqK_n ?_
      | refine seqK_r ?_
      | refine seqK_x ?_
      | refine blockK_r ?_
      | refine blockK_n ?_
      | refine blockK_e ?_
      | refine blockK_x rfl ?_
      | refine loopK_x ?_
      | refine loopK_r ?_
      | refine invK_x ?_
      | refine invK_r ?_
      | refine invK_n ?_
      | refine W_guard_on rfl ?_
      | refine W_guard_off rfl rfl (W_norm rfl ?_)
      | refine W_guard_u rfl (W_norm rfl ?_)
      | refine W_pick_t rfl rfl (W_norm rfl ?_)
      | refine W_pick_f rfl rfl (W_norm rfl ?_)
      | refine W_skip ?_
      | refine W_ret ?_
      | refine W_exit ?_
      | refine W_cond_t rfl ?_
      | refine W_cond_f rfl ?_
      | refine W_block ?_
      | refine W_draw rfl ?_
      | refine W_add rfl rfl (IntWalk.i64_in _ (by omega)) (W_norm rfl ?_)
      | refine W_add rfl rfl (IntWalk.i32_in _ (by omega)) (W_norm rfl ?_)
      | refine W_add rfl rfl (IntWalk.u8_in _ (by omega)) (W_norm rfl ?_)
      | refine W_sub rfl rfl (IntWalk.i64_in _ (by omega)) (W_norm rfl ?_)
      | refine W_sub rfl rfl (IntWalk.i32_in _ (by omega)) (W_norm rfl ?_)
      | refine W_sub rfl rfl (IntWalk.u8_in _ (by omega)) (W_norm rfl ?_)
      | refine W_mul rfl rfl (IntWalk.i64_in _ (by omega)) (W_norm rfl ?_)
      | refine W_mul rfl rfl (IntWalk.i32_in _ (by omega)) (W_norm rfl ?_)
      | refine W_mul rfl rfl (IntWalk.u8_in _ (by omega)) (W_norm rfl ?_)
      | refine W_convint rfl (IntWalk.i64_in _ (by omega)) (W_norm rfl ?_)
      | refine W_convint rfl (IntWalk.i32_in _ (by omega)) (W_norm rfl ?_)
      | refine W_convint rfl (IntWalk.u8_in _ (by omega)) (W_norm rfl ?_)
      | refine W_div rfl rfl (by omega) (W_norm rfl ?_)
      | refine W_mod rfl rfl (by omega) (W_norm rfl ?_)
      | refine W_indexSlice rfl rfl ⟨by omega, by omega⟩ (W_norm rfl ?_)
      | refine W_indexArr rfl rfl ⟨by omega, by omega⟩ (W_norm rfl ?_)
      | refine W_alloc (W_norm rfl ?_)
      | (refine W_guardT rfl (fun hc => ?_) (fun hc => ?_) <;> (try rw [hc]) <;> (try simp only [decide_eq_true_eq, decide_eq_false_iff_not, beq_iff_eq, beq_eq_false_iff_ne, bne_iff_ne, bne_eq_false_iff_eq, Bool.not_eq_true', Bool.not_eq_false', Int.not_lt, Int.not_le, ne_eq, reduceCtorEq, not_true_eq_false, not_false_eq_true, Decidable.not_not] at hc) <;> (try (exfalso; omega)) <;> (try refine W_norm rfl ?_))
      | (refine W_guardF rfl (fun hc => ?_) (fun hc => ?_) <;> (try rw [hc]) <;> (try simp only [decide_eq_true_eq, decide_eq_false_iff_not, beq_iff_eq, beq_eq_false_iff_ne, bne_iff_ne, bne_eq_false_iff_eq, Bool.not_eq_true', Bool.not_eq_false', Int.not_lt, Int.not_le, ne_eq, reduceCtorEq, not_true_eq_false, not_false_eq_true, Decidable.not_not] at hc) <;> (try (exfalso; omega)) <;> (try refine W_norm rfl ?_))
      | (refine W_cond rfl (fun hc => ?_) (fun hc => ?_) <;> (try rw [hc]) <;> (try simp only [decide_eq_true_eq, decide_eq_false_iff_not, beq_iff_eq, beq_eq_false_iff_ne, bne_iff_ne, bne_eq_false_iff_eq, Bool.not_eq_true', Bool.not_eq_false', Int.not_lt, Int.not_le, ne_eq, reduceCtorEq, not_true_eq_false, not_false_eq_true, Decidable.not_not] at hc) <;> (try (exfalso; omega)) <;> (try refine W_norm rfl ?_))
      | (refine W_pick rfl (fun hc => ?_) (fun hc => ?_) <;> (try rw [hc]) <;> (try simp only [decide_eq_true_eq, decide_eq_false_iff_not, beq_iff_eq, beq_eq_false_iff_ne, bne_iff_ne, bne_eq_false_iff_eq, Bool.not_eq_true', Bool.not_eq_false', Int.not_lt, Int.not_le, ne_eq, reduceCtorEq, not_true_eq_false, not_false_eq_true, Decidable.not_not] at hc) <;> (try (exfalso; omega)) <;> (try refine W_norm rfl ?_))
      | refine W_add rfl rfl rfl (W_norm rfl ?_)
      | refine W_sub rfl rfl rfl (W_norm rfl ?_)
      | refine W_mul rfl rfl rfl (W_norm rfl ?_)
      | (refine fnK_r rfl ?_; try dsimp only [gd_z, gd_s])
      | (refine fnK_n rfl ?_; try dsimp only [gd_z, gd_s]))
    refine ⟨_, rfl, ?_, rfl⟩
    rw [← hs, List.drop_of_length_le (by show 26 ≤ _; omega)]; rfl

theorem w22 (r : Int) (h : Heap) (hb : HasB h) : Wc DD 22 [.sc (.int .i32 r)] h fun v h' => v = i64 (ofL r) ∧ h' = h := w22_0 r h hb
theorem w27 (r : Int) (h : Heap) : Wc DD 27 [.sc (.int .i32 r)] h fun v h' => v = i64 (ofL r) ∧ Sep (Now h) [] h' :=
  (w27_0 r h).mono fun _ _ _ ⟨v, h1, h2, h3⟩ => ⟨v, h1, h2, by subst h3; exact (Sep.entry h).push _ |>.drop 0⟩
theorem HasB.now {h h' : Heap} {M : List Hp} (s : Sep (Now h) M h') (hb : HasB h) : HasB h' := by
  obtain ⟨t, hb⟩ := hb
  exact ⟨t, s.le _ _ hb⟩
end Go.Proofs.YtfmldkjidfigbaaDoor
/- Rows: what the functions of the package row do, each once. -/
set_option linter.unusedSimpArgs false
set_option linter.unusedVariables false
set_option maxHeartbeats 1000000
set_option maxRecDepth 100000
namespace Go.Proofs.YtfmldkjidfigbaaDoor
open Go Go.Jx

def fillL {α : Type} (L : List α) (o n : Nat) (x : α) : List α := L.take o ++ List.replicate n x ++ L.drop (o + n)
theorem fillL_length {α : Type} {L : List α} {o n : Nat} {x : α} (h : o + n ≤ L.length) : (fillL L o n x).length = L.length := by
  unfold fillL
  simp only [List.length_append, List.length_take, List.length_replicate, List.length_drop]
  omega
theorem fillL_zero {α : Type} (L : List α) (o : Nat) (x : α) : fillL L o 0 x = L := by simp [fillL]
theorem fillL_succ {α : Type} {L : List α} {o k : Nat} {x : α} (h : o + k < L.length) : (fillL L o k x).set (o + k) x = fillL L o (k + 1) x := by
  apply List.ext_getElem?
  intro i
  unfold fillL
  rw [List.getElem?_set]
  simp only [List.getElem?_append, List.getElem?_take, List.length_append, List.length_take, List.length_replicate, List.getElem?_drop, List.getElem?_replicate, List.length_drop]
  grind


theorem w40 (a : Attr) (h : Heap) : W DD (.call 40 [.agg (attrE.enc a)] h) (fun _ vs h' => ∃ v, vs = [v] ∧ (v = .agg (cellE.enc (blankC a)) ∧ Sep (Now h) [] h')) := by
  have hs := Sep.entry h
  refine W_enter d40 ?_
  show W _ (.code m40_code [.agg (attrE.enc a), undefA, undefA, undefA, undefA] _) _
  unfold m40_code
  repeat' (first
    | (refine K_ops ?_; first
      | refine W_nil ?_
      | (refine K_load ?_; first
        | (refine W_loadCA hs 1 rfl rfl rfl ?_; refine W_norm rfl ?_)
      )
      | (refine K_store ?_; first
        | (refine W_storeC hs 0 rfl rfl rfl rfl (by first | decide | assumption) rfl rfl ?_; clear hs; intro _ hs; try simp only [cell_back, attr_back, List.set_cons_zero, List.set_cons_succ, List.eraseIdx_cons_succ, List.eraseIdx_zero, List.tail_cons, List.nil_append, List.cons_append] at hs; refine W_norm rfl ?_)
      )
      | (refine W_allocS hs ?_; clear hs; intro al _ hs; try simp only [cell_back, attr_back, List.set_cons_zero, List.set_cons_succ, List.eraseIdx_cons_succ, List.eraseIdx_zero, List.tail_cons, List.nil_append, List.cons_append] at hs; refine W_norm rfl ?_)
      | (refine W_boxS hs rfl rfl ?_; clear hs; intro bx _ hs; try simp only [cell_back, attr_back, List.set_cons_zero, List.set_cons_succ, List.eraseIdx_cons_succ, List.eraseIdx_zero, List.tail_cons, List.nil_append, List.cons_append] at hs; refine W_norm rfl ?_)
      | (refine W_buildN rfl ?_; refine W_norm rfl ?_)
    )
    | (refine K_code ?_; first
      | refine W_seq ?_
      | refine W_ops ?_
      | refine W_ret ?_
    )
    | refine seqK_n ?_
    | (refine fnK_cellS hs 0 rfl rfl rfl rfl ?_))
  exact ⟨_, rfl, rfl, hs.none⟩



theorem w34 {R : Ro} {M : List Hp} {h : Heap} {id o n : Nat} {L : List Cell} {kd : Kind} {v : SV} (a : Attr) (hs : Sep R ([(id, .cells 34 kd (L.flatMap cellE.enc))] :: M) h) (hv : VwO 7 id o n v) (ho : o + n ≤ L.length) (hl : L.length ≤ 10000000000000) (hkd : kd ≠ .ro) :
    W DD (.call 34 [.sc v, .agg (attrE.enc a)] h) (fun _ vs h' => ∃ v, vs = [v] ∧ (v = .tup [] ∧ Sep R ([(id, .cells 34 kd ((fillL L o n (blankC a)).flatMap cellE.enc))] :: M) h')) := by
  refine W_enter d34 ?_
  show W _ (.code m34_code [.sc v, .agg (attrE.enc a), undefA, undefA, undefA, undefA, undefA, undefA, undefA, undefA, undefA, undefA, undefA, undefA, undefA, undefA] _) _
  unfold m34_code
  repeat' (first
    | (refine K_ops ?_; first
      | refine W_fastB rfl ?_
      | refine W_nil ?_
      | (refine W_lenL rfl (by first | assumption | exact SlR.ln (by assumption) | exact AccS.ln (by assumption) | exact OwnS.ln (by assumption) | exact VwO.ln (by assumption) | exact OwnP.ln (by assumption) | exact Len.sl) ?_; refine W_norm rfl ?_)
      | (refine W_boxS hs rfl rfl ?_; clear hs; intro bx _ hs; try simp only [cell_back, attr_back, List.set_cons_zero, List.set_cons_succ, List.eraseIdx_cons_succ, List.eraseIdx_zero, List.tail_cons, List.nil_append, List.cons_append] at hs; refine W_norm rfl ?_)
    )
    | (refine K_code ?_; first
      | refine W_seq ?_
      | refine W_ops ?_
      | refine W_block ?_
    )
    | refine seqK_n ?_)
  rename_i h1
  refine W_loopB [4, 7, 8, 9, 10, 11, 12, 13, 14, 15] [0, 1, 2, 3, 4, 5, 6, 7, 8, 9, 10, 11, 12, 13, 14, 15] (fun n' sl h' => ∃ (k : Nat), sl = [(7, .sc (.int .i64 (k : Int)))] ∧ n' = n - k ∧ k ≤ n ∧ Sep R ([(bx, .cells 32 .own (attrE.enc a))] :: [(id, .cells 34 kd ((fillL L o k (blankC a)).flatMap cellE.enc))] :: M) h') ?_ ?_
  · refine ⟨_, _, ⟨0, rfl, rfl, Nat.zero_le _, ?_⟩, EnvB.of rfl⟩
    rw [fillL_zero]; exact hs
  rintro _ _ us _ h2 ⟨k, rfl, rfl, hk, hs⟩ he
  refine W_spell he rfl ?_
  clear he
  unfold m34_l2
  have hlen := fillL_length (L := L) (o := o) (n := k) (x := blankC a) (by omega)
  by_cases hlt : k < n
  · repeat' (first
      | (refine K_ops ?_; first
        | refine W_fastB rfl ?_
        | refine W_nil ?_
        | (refine K_call ?_; first
          | (refine W_callsN 40 rfl (w40 a _) rfl ?_; rintro _ h3 ⟨rfl, t⟩; replace hs := hs.call t; refine W_norm rfl ?_)
        )
        | (refine K_bin ?_; first
          | (refine W_add rfl rfl (IntWalk.i64_in _ (by first | omega | (simp only [List.length_set, List.length_append, List.length_take, List.length_drop, List.length_replicate, List.length_cons, List.length_nil, decs_length, List.length_map]; omega))) ?_; refine W_norm rfl ?_)
        )
        | (refine K_index ?_; first
          | (refine W_indexVw rfl rfl (by assumption) ⟨(by first | omega | (simp only [List.length_set, List.length_append, List.length_take, List.length_drop, List.length_replicate, List.length_cons, List.length_nil, decs_length, List.length_map]; omega)), (by first | omega | (simp only [List.length_set, List.length_append, List.length_take, List.length_drop, List.length_replicate, List.length_cons, List.length_nil, decs_length, List.length_map]; omega))⟩ ?_; refine W_norm rfl ?_)
        )
        | (refine K_load ?_; first
          | (refine W_loadCA hs 0 rfl rfl rfl ?_; refine W_norm rfl ?_)
        )
        | (refine K_store ?_; first
          | (refine W_storeO hs 1 rfl rfl rfl rfl rfl (by first | omega | (simp only [List.length_set, List.length_append, List.length_take, List.length_drop, List.length_replicate, List.length_cons, List.length_nil, decs_length, List.length_map]; omega)) (by first | decide | assumption) rfl ?_; clear hs; intro _ hs; try simp only [cell_back, attr_back, List.set_cons_zero, List.set_cons_succ, List.eraseIdx_cons_succ, List.eraseIdx_zero, List.tail_cons, List.nil_append, List.cons_append] at hs; refine W_norm rfl ?_)
        )
      )
      | (refine K_code ?_; first
        | refine W_seq ?_
        | refine W_ops ?_
        | (refine W_cond rfl (fun hc => ?_) (fun hc => ?_) <;> (try rw [hc]) <;> (try simp only [decide_eq_true_eq, decide_eq_false_iff_not, beq_iff_eq, beq_eq_false_iff_ne, bne_iff_ne, bne_eq_false_iff_eq, Bool.not_eq_true', Bool.not_eq_false', Int.not_lt, Int.not_le, ne_eq, reduceCtorEq, not_true_eq_false, not_false_eq_true, Decidable.not_not] at hc) <;> (try (exfalso; omega)) <;> (try refine W_norm rfl ?_))
        | refine W_skip ?_
        | refine W_block ?_
      )
      | refine seqK_n ?_
      | refine blockK_n ?_
      | refine invK_n ?_)
    refine ⟨_, ?_, _, ⟨k + 1, rfl, rfl, ?_, ?_⟩, EnvB.of rfl⟩
    · omega
    · omega
    · rw [← fillL_succ (by omega)]; exact hs
  · repeat' (first
      | (refine K_ops ?_; first
        | refine W_fastB rfl ?_
        | refine W_nil ?_
      )
      | (refine K_code ?_; first
        | refine W_seq ?_
        | refine W_ops ?_
        | (refine W_cond rfl (fun hc => ?_) (fun hc => ?_) <;> (try rw [hc]) <;> (try simp only [decide_eq_true_eq, decide_eq_false_iff_not, beq_iff_eq, beq_eq_false_iff_ne, bne_iff_ne, bne_eq_false_iff_eq, Bool.not_eq_true', Bool.not_eq_false', Int.not_lt, Int.not_le, ne_eq, reduceCtorEq, not_true_eq_false, not_false_eq_true, Decidable.not_not] at hc) <;> (try (exfalso; omega)) <;> (try refine W_norm rfl ?_))
        | refine W_exit ?_
      )
      | refine seqK_n ?_
      | refine seqK_x ?_
      | refine blockK_e ?_
      | refine invK_x ?_
      | (refine fnK_n rfl ?_; try dsimp only [gd_z, gd_s]))
    obtain rfl : k = n := by omega
    exact ⟨_, rfl, rfl, hs.drop 0⟩



theorem w17 (n : Int) (a : Attr) (h : Heap) : Wc DD 17 [i64 n, .agg (attrE.enc a)] h fun v h' => ∃ u c, v = .sc u ∧ AccS cellE 34 u (if 1 ≤ n ∧ n ≤ 400 then List.replicate n.toNat (blankC a) else []) c ∧ Sep (Now h) [c] h' := by
  have hs := Sep.entry h
  refine W_enter d17 ?_
  show W _ (.code m17_code [i64 n, .agg (attrE.enc a), undefA, undefA, undefA, undefA, undefA, undefA, undefA, undefA, undefA, undefA, undefA, undefA, undefA, undefA, undefA, undefA] _) _
  unfold m17_code
  repeat' (first
    | (refine K_ops ?_; first
      | refine W_fastB rfl ?_
      | refine W_nil ?_
      | (refine K_guard ?_; first
        | refine W_guard_on rfl ?_
        | refine W_guard_off rfl rfl (W_norm rfl ?_)
        | (refine W_guardF rfl (fun hc => ?_) (fun hc => ?_) <;> (try rw [hc]) <;> (try simp only [decide_eq_true_eq, decide_eq_false_iff_not, beq_iff_eq, beq_eq_false_iff_ne, bne_iff_ne, bne_eq_false_iff_eq, Bool.not_eq_true', Bool.not_eq_false', Int.not_lt, Int.not_le, ne_eq, reduceCtorEq, not_true_eq_false, not_false_eq_true, Decidable.not_not] at hc) <;> (try (exfalso; omega)) <;> (try refine W_norm rfl ?_))
      )
      | (refine K_call ?_; first
        | (refine W_callsN 34 rfl (w34 a hs VwO.whole (by simp) (by simp; omega) (by decide)) rfl ?_; rintro _ h3 ⟨rfl, hs⟩; refine W_norm rfl ?_)
      )
      | (refine K_pick ?_; first
        | refine W_pick_t rfl rfl (W_norm rfl ?_)
        | refine W_pick_f rfl rfl (W_norm rfl ?_)
      )
      | (refine K_load ?_; first
        | (refine W_loadCA hs 1 rfl rfl rfl ?_; refine W_norm rfl ?_)
      )
      | (refine W_boxS hs rfl rfl ?_; clear hs; intro bx _ hs; try simp only [cell_back, attr_back, List.set_cons_zero, List.set_cons_succ, List.eraseIdx_cons_succ, List.eraseIdx_zero, List.tail_cons, List.nil_append, List.cons_append] at hs; refine W_norm rfl ?_)
      | (refine K_make ?_; first
        | (refine W_makeS cellE hs rfl rfl (by first | omega | (simp only [List.length_set, List.length_append, List.length_take, List.length_drop, List.length_replicate, List.length_cons, List.length_nil, decs_length, List.length_map]; omega)) ⟨(by first | omega | (simp only [List.length_set, List.length_append, List.length_take, List.length_drop, List.length_replicate, List.length_cons, List.length_nil, decs_length, List.length_map]; omega)), (by first | omega | (simp only [List.length_set, List.length_append, List.length_take, List.length_drop, List.length_replicate, List.length_cons, List.length_nil, decs_length, List.length_map]; omega))⟩ rfl ?_; clear hs; intro _ _ hs; try simp only [cell_back, attr_back, List.set_cons_zero, List.set_cons_succ, List.eraseIdx_cons_succ, List.eraseIdx_zero, List.tail_cons, List.nil_append, List.cons_append] at hs; refine W_norm rfl ?_)
      )
    )
    | (refine K_code ?_; first
      | refine W_seq ?_
      | refine W_ops ?_
      | refine W_cond_t rfl ?_
      | (refine W_cond rfl (fun hc => ?_) (fun hc => ?_) <;> (try rw [hc]) <;> (try simp only [decide_eq_true_eq, decide_eq_false_iff_not, beq_iff_eq, beq_eq_false_iff_ne, bne_iff_ne, bne_eq_false_iff_eq, Bool.not_eq_true', Bool.not_eq_false', Int.not_lt, Int.not_le, ne_eq, reduceCtorEq, not_true_eq_false, not_false_eq_true, Decidable.not_not] at hc) <;> (try (exfalso; omega)) <;> (try refine W_norm rfl ?_))
      | refine W_skip ?_
      | refine W_ret ?_
    )
    | refine seqK_n ?_
    | refine seqK_r ?_
    | (refine fnK_r rfl ?_; try dsimp only [gd_z, gd_s]))
  · exact ⟨_, rfl, _, [], rfl, by rw [if_neg (by omega)]; exact AccS.nil _, hs.none.nil⟩
  · refine ⟨_, rfl, _, _, rfl, ?_, hs.drop 1⟩
    rw [if_pos (by omega)]
    have e : fillL (List.replicate n.toNat (cellE.dec [.int .i32 0, .int .u8 0, .int .u16 0, .int .u8 0, .int .u32 0, .int .u8 0, .int .u32 0])) 0 n.toNat (blankC a) = List.replicate n.toNat (blankC a) := by
      unfold fillL; simp
    rw [e]
    exact AccS.one (by decide) (by simp)
  · exact ⟨_, rfl, _, [], rfl, by rw [if_neg (by omega)]; exact AccS.nil _, hs.none.nil⟩


/-- What is appended to nothing gets just its place. -/
theorem W_appS0 {D : Nat → Option MFunc} {Q : Ex → List AV → Heap → Prop} {e : List AV} {h : Heap} {dst : Option Nat} {r : List MI} {α : Type} {E : El α} {R : Ro} {M : List Hp} {u : SV} {X : List α} {t : TypeId} {bytes id : Nat} {zero : List SV} {x y : Rnd} {m : Nat} (s : Sep R ([(id, .cells t .own [])] :: M) h) (hs : rd e x = .sc (.slice id 0 0 0)) (hx : rd e y = .sc u) (hu : SlR E (Now h) u X) (hm : m = E.n)
    (hr : 0 < bytes ∧ X.length * bytes ≤ 2 ^ 48) (K : ∀ v' c' h', AccS E t v' X c' → Sep R (c' :: M) h' → W D (.ops r (put e dst (.sc v')) h') Q) : W D (.ops (⟨dst, .append t m bytes zero x y, none⟩ :: r) e h) Q := by
  subst hm
  obtain ⟨h1, h2⟩ := Sl.first E.len E.pos hu.sl
  have hX := E.flatMap_len X
  have hE := E.pos
  by_cases hm : X.length = 0
  · obtain rfl : X = [] := List.length_eq_zero_iff.1 hm
    refine W_act rfl (v := .sc (.slice id 0 0 0)) (h' := h) ?_ (K _ _ h (AccS.one (kd := .own) (L := []) (by decide) rfl) s)
    show appendA t E.n bytes (rd e x) (rd e y) h = _
    rw [hs, hx]
    unfold appendA
    simp only [h1, h2]
    rfl
  · refine W_act rfl (v := .sc (.slice h.n 0 X.length X.length)) (h' := h.push (.cells t .grow (X.flatMap E.enc))) ?_ (K _ [(h.n, .cells t .grow (X.flatMap E.enc))] _ (AccS.one (by decide) rfl) ((s.push _).drop 1))
    show appendA t E.n bytes (rd e x) (rd e y) h = _
    rw [hs, hx]
    have hg : roomC (0 + X.length) 0 bytes = true := by
      unfold roomC
      rw [Bool.or_eq_true, decide_eq_true_eq]
      right
      refine ⟨by omega, hr.1, by rw [Nat.zero_add]; exact hr.2⟩
    unfold appendA
    simp only [h1, h2]
    rw [if_neg hm, if_neg (by rw [hX]; simp)]
    simp only [s.at1 0 rfl]
    rw [if_neg (by omega), readN_some (by simp)]
    simp only
    unfold grownA
    rw [if_pos hg]
    simp


theorem w21 {v : SV} {L : List Cell} {h : Heap} (hv : SlR cellE (Now h) v L) (hl : L.length ≤ 10000000000000) : Wc DD 21 [.sc v] h fun w h' => ∃ u c, w = .sc u ∧ AccS cellE 34 u L c ∧ Sep (Now h) [c] h' := by
  have hs := Sep.entry h
  have hv' := hv
  rcases hv' with ⟨rfl, rfl | ⟨b, rfl⟩⟩ | ⟨id, off, cap, t, kd, cs, rfl, h2, h3, h4⟩
  · refine W_enter d21 ?_
    show W _ (.code m21_code [.sc .nils, undefA, undefA, undefA, undefA, undefA, undefA, undefA] _) _
    unfold m21_code
    repeat' (first
      | (refine K_ops ?_; first
        | refine W_fastB rfl ?_
        | refine W_nil ?_
        | (refine K_bin ?_; first
          | (refine W_nilSl_t rfl rfl rfl ?_; refine W_norm rfl ?_)
        )
      )
      | (refine K_code ?_; first
        | refine W_seq ?_
        | refine W_ops ?_
        | refine W_cond_t rfl ?_
        | refine W_ret ?_
      )
      | refine seqK_n ?_
      | refine seqK_r ?_
      | (refine fnK_r rfl ?_; try dsimp only [gd_z, gd_s]))
    exact ⟨_, rfl, _, _, rfl, AccS.nil _, hs.nil⟩
  · refine W_enter d21 ?_
    show W _ (.code m21_code [.sc (.eslice b), undefA, undefA, undefA, undefA, undefA, undefA, undefA] _) _
    unfold m21_code
    repeat' (first
      | (refine K_ops ?_; first
        | refine W_fastB rfl ?_
        | refine W_nil ?_
        | (refine K_bin ?_; first
          | (refine W_nilSl_e rfl rfl rfl ?_; refine W_norm rfl ?_)
        )
        | (refine K_bslice ?_; first
          | (refine W_buildS0 cellE hs ?_; clear hs; intro _ _ _ _ hs; try simp only [cell_back, attr_back, List.set_cons_zero, List.set_cons_succ, List.eraseIdx_cons_succ, List.eraseIdx_zero, List.tail_cons, List.nil_append, List.cons_append] at hs; refine W_norm rfl ?_)
        )
        | (refine K_append ?_; first
          | (refine W_appS hs 0 rfl rfl (by assumption) rfl (by first | assumption | exact SlR.now hs (by assumption) | exact AccS.now (by assumption) hs (by simp) | exact OwnS.now (by assumption) hs (by simp)) rfl ⟨by decide, (by first | omega | (simp only [List.length_set, List.length_append, List.length_take, List.length_drop, List.length_replicate, List.length_cons, List.length_nil, decs_length, List.length_map]; omega))⟩ ?_; clear hs; intro _ _ _ _ hs; try simp only [cell_back, attr_back, List.set_cons_zero, List.set_cons_succ, List.eraseIdx_cons_succ, List.eraseIdx_zero, List.tail_cons, List.nil_append, List.cons_append] at hs; refine W_norm rfl ?_)
        )
      )
      | (refine K_code ?_; first
        | refine W_seq ?_
        | refine W_ops ?_
        | refine W_cond_f rfl ?_
        | refine W_skip ?_
        | refine W_ret ?_
      )
      | refine seqK_n ?_
      | (refine fnK_r rfl ?_; try dsimp only [gd_z, gd_s]))
    rename_i ha
    exact ⟨_, rfl, _, _, rfl, ha, hs⟩
  · refine W_enter d21 ?_
    show W _ (.code m21_code [.sc (.slice id off L.length cap), undefA, undefA, undefA, undefA, undefA, undefA, undefA] _) _
    unfold m21_code
    repeat' (first
      | (refine K_ops ?_; first
        | refine W_fastB rfl ?_
        | refine W_nil ?_
        | (refine K_bin ?_; first
          | (refine W_nilSl_f rfl rfl rfl ?_; refine W_norm rfl ?_)
        )
      )
      | (refine K_code ?_; first
        | refine W_seq ?_
        | refine W_ops ?_
        | refine W_cond_f rfl ?_
        | refine W_skip ?_
      )
      | refine seqK_n ?_)
    refine W_buildSlice (cs := []) rfl (W_norm rfl ?_)
    replace hs := hs.push (.cells 34 .own [])
    repeat' (first
      | (refine K_ops ?_; first
        | refine W_fastB rfl ?_
      ))
    refine W_appS0 (E := cellE) hs rfl rfl (SlR.now hs hv) rfl ⟨by decide, by omega⟩ ?_
    clear hs
    intro v' c' h' ha hs
    refine W_norm rfl ?_
    repeat' (first
      | (refine K_ops ?_; first
        | refine W_fastB rfl ?_
        | refine W_nil ?_
      )
      | (refine K_code ?_; first
        | refine W_ret ?_
      )
      | refine seqK_n ?_
      | (refine fnK_r rfl ?_; try dsimp only [gd_z, gd_s]))
    exact ⟨_, rfl, _, _, rfl, ha, hs⟩



theorem w50 {v : SV} {n : Nat} {x : Int} {h : Heap} (hv : Len v n) : Wc DD 50 [.sc v, i64 x] h fun w h' => w = bo (decide (0 ≤ x ∧ x < n)) ∧ h' = h := by
  refine W_enter d50 ?_
  show W _ (.code m50_code [.sc v, i64 x, undefA, undefA, undefA, undefA, undefA, undefA, undefA, undefA, undefA, undefA, undefA] _) _
  unfold m50_code
  have hs := Sep.entry h
  repeat' (first
    | (refine K_ops ?_; first
      | refine W_fastB rfl ?_
      | refine W_nil ?_
      | (refine K_guard ?_; first
        | refine W_guard_on rfl ?_
        | refine W_guard_off rfl rfl (W_norm rfl ?_)
        | (refine W_guardT rfl (fun hc => ?_) (fun hc => ?_) <;> (try rw [hc]) <;> (try simp only [decide_eq_true_eq, decide_eq_false_iff_not, beq_iff_eq, beq_eq_false_iff_ne, bne_iff_ne, bne_eq_false_iff_eq, Bool.not_eq_true', Bool.not_eq_false', Int.not_lt, Int.not_le, ne_eq, reduceCtorEq, not_true_eq_false, not_false_eq_true, Decidable.not_not] at hc) <;> (try (exfalso; omega)) <;> (try refine W_norm rfl ?_))
      )
      | (refine W_lenL rfl (by first | assumption | exact SlR.ln (by assumption) | exact AccS.ln (by assumption) | exact OwnS.ln (by assumption) | exact VwO.ln (by assumption) | exact OwnP.ln (by assumption) | exact Len.sl) ?_; refine W_norm rfl ?_)
      | (refine K_pick ?_; first
        | refine W_pick_t rfl rfl (W_norm rfl ?_)
        | refine W_pick_f rfl rfl (W_norm rfl ?_)
      )
    )
    | (refine K_code ?_; first
      | refine W_seq ?_
      | refine W_ops ?_
      | refine W_ret ?_
    )
    | refine seqK_n ?_
    | (refine fnK_r rfl ?_; try dsimp only [gd_z, gd_s]))
  all_goals exact ⟨_, rfl, by congr 2; simp; omega, rfl⟩



def roomL (len : Nat) (x n : Int) : Int := if 0 ≤ x ∧ x < len ∧ 1 ≤ n then min n (len - x) else 0
theorem w46 {v : SV} {m : Nat} {x n : Int} {h : Heap} (hv : Len v m) (hm : m ≤ 10000000000000) : Wc DD 46 [.sc v, i64 x, i64 n] h fun w h' => w = i64 (roomL m x n) ∧ h' = h := by
  refine W_enter d46 ?_
  show W _ (.code m46_code [.sc v, i64 x, i64 n, undefA, undefA, undefA, undefA, undefA, undefA, undefA, undefA, undefA, undefA, undefA, undefA, undefA, undefA, undefA, undefA, undefA, undefA] _) _
  unfold m46_code
  have hs := Sep.entry h
  repeat' (first
    | (refine K_ops ?_; first
      | refine W_fastB rfl ?_
      | refine W_nil ?_
      | (refine K_guard ?_; first
        | refine W_guard_on rfl ?_
        | refine W_guard_off rfl rfl (W_norm rfl ?_)
        | (refine W_guardF rfl (fun hc => ?_) (fun hc => ?_) <;> (try rw [hc]) <;> (try simp only [decide_eq_true_eq, decide_eq_false_iff_not, beq_iff_eq, beq_eq_false_iff_ne, bne_iff_ne, bne_eq_false_iff_eq, Bool.not_eq_true', Bool.not_eq_false', Int.not_lt, Int.not_le, ne_eq, reduceCtorEq, not_true_eq_false, not_false_eq_true, Decidable.not_not] at hc) <;> (try (exfalso; omega)) <;> (try refine W_norm rfl ?_))
      )
      | (refine K_call ?_; first
        | (refine W_callsN 50 rfl (w50 hv) rfl ?_; rintro _ _ ⟨rfl, rfl⟩; refine W_norm rfl ?_)
      )
      | (refine W_lenL rfl (by first | assumption | exact SlR.ln (by assumption) | exact AccS.ln (by assumption) | exact OwnS.ln (by assumption) | exact VwO.ln (by assumption) | exact OwnP.ln (by assumption) | exact Len.sl) ?_; refine W_norm rfl ?_)
      | (refine K_bin ?_; first
        | (refine W_sub rfl rfl (IntWalk.i64_in _ (by first | omega | (simp only [List.length_set, List.length_append, List.length_take, List.length_drop, List.length_replicate, List.length_cons, List.length_nil, decs_length, List.length_map]; omega))) ?_; refine W_norm rfl ?_)
      )
      | (refine K_pick ?_; first
        | refine W_pick_t rfl rfl (W_norm rfl ?_)
        | refine W_pick_f rfl rfl (W_norm rfl ?_)
      )
      | (refine W_min2 rfl rfl ?_; refine W_norm rfl ?_)
    )
    | (refine K_code ?_; first
      | refine W_seq ?_
      | refine W_ops ?_
      | refine W_cond_t rfl ?_
      | (refine W_cond rfl (fun hc => ?_) (fun hc => ?_) <;> (try rw [hc]) <;> (try simp only [decide_eq_true_eq, decide_eq_false_iff_not, beq_iff_eq, beq_eq_false_iff_ne, bne_iff_ne, bne_eq_false_iff_eq, Bool.not_eq_true', Bool.not_eq_false', Int.not_lt, Int.not_le, ne_eq, reduceCtorEq, not_true_eq_false, not_false_eq_true, Decidable.not_not] at hc) <;> (try (exfalso; omega)) <;> (try refine W_norm rfl ?_))
      | refine W_skip ?_
      | refine W_ret ?_
    )
    | refine seqK_n ?_
    | refine seqK_r ?_
    | (refine fnK_r rfl ?_; try dsimp only [gd_z, gd_s]))
  · exact ⟨_, rfl, by unfold roomL; rw [if_neg (by omega)], rfl⟩
  · exact ⟨_, rfl, by unfold roomL; rw [if_pos (by omega)], rfl⟩
  · exact ⟨_, rfl, by unfold roomL; rw [if_neg (by omega)], rfl⟩


/-- Parted at a column. -/
def partL (L : List Cell) (x : Int) : List Cell :=
  if 0 < x ∧ x < L.length ∧ (L.getD x.toNat cell0).w = 2 then (L.set ((x - 1).toNat) (blankC (L.getD (x - 1).toNat cell0).a)).set x.toNat (blankC (L.getD x.toNat cell0).a) else L
theorem partL_length (L : List Cell) (x : Int) : (partL L x).length = L.length := by
  unfold partL
  split <;> simp


theorem w47 {R : Ro} {M : List Hp} {h : Heap} {L : List Cell} {v : SV} {c : Hp} {x : Int} (hs : Sep R (c :: M) h) (hv : AccS cellE 34 v L c) (hl : L.length ≤ 10000000000000) :
    Wc DD 47 [.sc v, i64 x] h fun w h' => w = .tup [] ∧ ∃ c', AccS cellE 34 v (partL L x) c' ∧ Sep R (c' :: M) h' := by
  have hln : Len v L.length := hv.ln
  by_cases hp : 0 < x ∧ x < L.length
  · obtain ⟨id, kd, rfl, rfl, hk⟩ := hv.1.pos (by omega)
    refine W_enter d47 ?_
    show W _ (.code m47_code [.sc (.slice id 0 L.length L.length), i64 x, undefA, undefA, undefA, undefA, undefA, undefA, undefA, undefA, undefA, undefA, undefA, undefA, undefA, undefA, undefA, undefA, undefA, undefA, undefA, undefA, undefA, undefA, undefA, undefA, undefA, undefA, undefA, undefA, undefA, undefA, undefA, undefA, undefA, undefA, undefA, undefA, undefA, undefA] _) _
    unfold m47_code
    repeat' (first
      | (refine K_ops ?_; first
        | refine W_fastB rfl ?_
        | refine W_nil ?_
        | (refine K_guard ?_; first
          | refine W_guard_on rfl ?_
          | (refine W_guardT rfl (fun hc => ?_) (fun hc => ?_) <;> (try rw [hc]) <;> (try simp only [decide_eq_true_eq, decide_eq_false_iff_not, beq_iff_eq, beq_eq_false_iff_ne, bne_iff_ne, bne_eq_false_iff_eq, Bool.not_eq_true', Bool.not_eq_false', Int.not_lt, Int.not_le, ne_eq, reduceCtorEq, not_true_eq_false, not_false_eq_true, Decidable.not_not] at hc) <;> (try (exfalso; omega)) <;> (try refine W_norm rfl ?_))
        )
        | (refine W_lenL rfl (by first | assumption | exact SlR.ln (by assumption) | exact AccS.ln (by assumption) | exact OwnS.ln (by assumption) | exact VwO.ln (by assumption) | exact OwnP.ln (by assumption) | exact Len.sl) ?_; refine W_norm rfl ?_)
        | (refine K_pick ?_; first
          | refine W_pick_t rfl rfl (W_norm rfl ?_)
        )
        | (refine K_index ?_; first
          | (refine W_indexO rfl rfl ⟨(by first | omega | (simp only [List.length_set, List.length_append, List.length_take, List.length_drop, List.length_replicate, List.length_cons, List.length_nil, decs_length, List.length_map]; omega)), (by first | omega | (simp only [List.length_set, List.length_append, List.length_take, List.length_drop, List.length_replicate, List.length_cons, List.length_nil, decs_length, List.length_map]; omega))⟩ ?_; refine W_norm rfl ?_)
        )
        | (refine K_load ?_; first
          | (refine W_loadOF hs 0 rfl rfl rfl (by first | omega | (simp only [List.length_set, List.length_append, List.length_take, List.length_drop, List.length_replicate, List.length_cons, List.length_nil, decs_length, List.length_map]; omega)) rfl ?_; refine W_norm rfl ?_)
        )
      )
      | (refine K_code ?_; first
        | refine W_seq ?_
        | refine W_ops ?_
        | (refine W_cond rfl (fun hc => ?_) (fun hc => ?_) <;> (try rw [hc]) <;> (try simp only [decide_eq_true_eq, decide_eq_false_iff_not, beq_iff_eq, beq_eq_false_iff_ne, bne_iff_ne, bne_eq_false_iff_eq, Bool.not_eq_true', Bool.not_eq_false', Int.not_lt, Int.not_le, ne_eq, reduceCtorEq, not_true_eq_false, not_false_eq_true, Decidable.not_not] at hc) <;> (try (exfalso; omega)) <;> (try refine W_norm rfl ?_))
        | refine W_skip ?_
      )
      | refine seqK_n ?_
      | (refine fnK_n rfl ?_; try dsimp only [gd_z, gd_s]))
    repeat' (first
      | (refine K_ops ?_; first
        | refine W_fastB rfl ?_
        | refine W_nil ?_
        | (refine K_call ?_; first
          | (refine W_callsN 40 rfl (w40 (L.getD (x - 1).toNat cell0).a _) rfl ?_; rintro _ h3 ⟨rfl, t⟩; have hs := hs.call t; refine W_norm rfl ?_)
          | (refine W_callsN 40 rfl (w40 (L.getD x.toNat cell0).a _) rfl ?_; rintro _ h3 ⟨rfl, t⟩; have hs := hs.call t; refine W_norm rfl ?_)
        )
        | (refine K_bin ?_; first
          | (refine W_sub rfl rfl (IntWalk.i64_in _ (by first | omega | (simp only [List.length_set, List.length_append, List.length_take, List.length_drop, List.length_replicate, List.length_cons, List.length_nil, decs_length, List.length_map]; omega))) ?_; refine W_norm rfl ?_)
        )
        | (refine K_index ?_; first
          | (refine W_indexO rfl rfl ⟨(by first | omega | (simp only [List.length_set, List.length_append, List.length_take, List.length_drop, List.length_replicate, List.length_cons, List.length_nil, decs_length, List.length_map]; omega)), (by first | omega | (simp only [List.length_set, List.length_append, List.length_take, List.length_drop, List.length_replicate, List.length_cons, List.length_nil, decs_length, List.length_map]; omega))⟩ ?_; refine W_norm rfl ?_)
        )
        | (refine K_load ?_; first
          | (refine W_loadOP hs 0 rfl rfl rfl (by first | omega | (simp only [List.length_set, List.length_append, List.length_take, List.length_drop, List.length_replicate, List.length_cons, List.length_nil, decs_length, List.length_map]; omega)) rfl ?_; refine W_norm rfl ?_)
        )
        | (refine K_store ?_; first
          | (refine W_storeO hs 0 rfl rfl rfl rfl rfl (by first | omega | (simp only [List.length_set, List.length_append, List.length_take, List.length_drop, List.length_replicate, List.length_cons, List.length_nil, decs_length, List.length_map]; omega)) (by first | decide | assumption) rfl ?_; intro _ hs; try simp only [cell_back, attr_back, List.set_cons_zero, List.set_cons_succ, List.eraseIdx_cons_succ, List.eraseIdx_zero, List.tail_cons, List.nil_append, List.cons_append] at hs; refine W_norm rfl ?_)
        )
      )
      | (refine K_code ?_; first
        | refine W_draws ?_
      )
      | refine W_dstep rfl ?_
      | refine ⟨rfl, fun rc hrec => ?_⟩
      | (refine W_dnilS (by simp only [List.reverse_cons, List.reverse_nil, List.nil_append, List.cons_append]; rfl) (by repeat' first | exact CL_nil _ _ | refine CL_skip rfl ?_ | refine CL_load (by assumption) rfl (by first | exact trivial | (repeat' first | exact trivial | refine ⟨⟨_, rfl, (by refine (congrArg (fun x => Heap.get x _) (RecIs.hh (by assumption))).trans ?_; first | rfl | exact PtR.same_get (by assumption) (by assumption) (by assumption) | exact Sep.same_get (by assumption) (by assumption) 0 0 rfl rfl | exact Sep.same_get (by assumption) (by assumption) 0 1 rfl rfl | exact Sep.same_get (by assumption) (by assumption) 0 2 rfl rfl | exact Sep.same_get (by assumption) (by assumption) 1 0 rfl rfl | exact Sep.same_get (by assumption) (by assumption) 1 1 rfl rfl | exact Sep.same_get (by assumption) (by assumption) 1 2 rfl rfl | exact Sep.same_get (by assumption) (by assumption) 2 0 rfl rfl | exact Sep.same_get (by assumption) (by assumption) 2 1 rfl rfl | exact Sep.same_get (by assumption) (by assumption) 2 2 rfl rfl)⟩, ?_⟩)) (by first | exact trivial | (repeat' first | exact trivial | refine ⟨⟨_, rfl, (by refine (congrArg (fun x => Heap.get x _) (RecIs.hh' (by assumption))).trans ?_; first | rfl | exact PtR.same_get (by assumption) (by assumption) (by assumption) | exact Sep.same_get (by assumption) (by assumption) 0 0 rfl rfl | exact Sep.same_get (by assumption) (by assumption) 0 1 rfl rfl | exact Sep.same_get (by assumption) (by assumption) 0 2 rfl rfl | exact Sep.same_get (by assumption) (by assumption) 1 0 rfl rfl | exact Sep.same_get (by assumption) (by assumption) 1 1 rfl rfl | exact Sep.same_get (by assumption) (by assumption) 1 2 rfl rfl | exact Sep.same_get (by assumption) (by assumption) 2 0 rfl rfl | exact Sep.same_get (by assumption) (by assumption) 2 1 rfl rfl | exact Sep.same_get (by assumption) (by assumption) 2 2 rfl rfl)⟩, ?_⟩)) ?_) ?_)
      | (refine fnK_n rfl ?_; try dsimp only [gd_z, gd_s]))
    · refine ⟨_, rfl, rfl, _, ?_, hs⟩
      unfold partL
      rw [if_pos ⟨hp.1, hp.2, hc⟩]
      exact AccS.again hk (by simp)
    · refine ⟨_, rfl, rfl, _, ?_, hs⟩
      unfold partL
      rw [if_neg (fun hh => hc hh.2.2)]
      exact hv
  · refine W_enter d47 ?_
    show W _ (.code m47_code [.sc v, i64 x, undefA, undefA, undefA, undefA, undefA, undefA, undefA, undefA, undefA, undefA, undefA, undefA, undefA, undefA, undefA, undefA, undefA, undefA, undefA, undefA, undefA, undefA, undefA, undefA, undefA, undefA, undefA, undefA, undefA, undefA, undefA, undefA, undefA, undefA, undefA, undefA, undefA, undefA] _) _
    unfold m47_code
    repeat' (first
      | (refine K_ops ?_; first
        | refine W_fastB rfl ?_
        | refine W_nil ?_
        | (refine K_guard ?_; first
          | refine W_guard_on rfl ?_
          | refine W_guard_off rfl rfl (W_norm rfl ?_)
          | (refine W_guardT rfl (fun hc => ?_) (fun hc => ?_) <;> (try rw [hc]) <;> (try simp only [decide_eq_true_eq, decide_eq_false_iff_not, beq_iff_eq, beq_eq_false_iff_ne, bne_iff_ne, bne_eq_false_iff_eq, Bool.not_eq_true', Bool.not_eq_false', Int.not_lt, Int.not_le, ne_eq, reduceCtorEq, not_true_eq_false, not_false_eq_true, Decidable.not_not] at hc) <;> (try (exfalso; omega)) <;> (try refine W_norm rfl ?_))
        )
        | (refine W_lenL rfl (by first | assumption | exact SlR.ln (by assumption) | exact AccS.ln (by assumption) | exact OwnS.ln (by assumption) | exact VwO.ln (by assumption) | exact OwnP.ln (by assumption) | exact Len.sl) ?_; refine W_norm rfl ?_)
        | (refine K_pick ?_; first
          | refine W_pick_t rfl rfl (W_norm rfl ?_)
          | refine W_pick_f rfl rfl (W_norm rfl ?_)
        )
      )
      | (refine K_code ?_; first
        | refine W_seq ?_
        | refine W_ops ?_
        | refine W_cond_f rfl ?_
        | refine W_skip ?_
      )
      | refine seqK_n ?_
      | (refine fnK_n rfl ?_; try dsimp only [gd_z, gd_s]))
    all_goals exact ⟨_, rfl, rfl, c, by unfold partL; rw [if_neg (by omega)]; exact hv, hs⟩

end Go.Proofs.YtfmldkjidfigbaaDoor
/- Rows: the calls of the package row that make rows. -/
set_option linter.unusedSimpArgs false
set_option linter.unusedVariables false
set_option maxHeartbeats 1000000
set_option maxRecDepth 100000
namespace Go.Proofs.YtfmldkjidfigbaaDoor
open Go Go.Jx

theorem partL_get (L : List Cell) (x : Int) (i : Nat) : (partL L x)[i]? = if 0 < x ∧ x < L.length ∧ (L.getD x.toNat cell0).w = 2 ∧ (i = x.toNat ∨ i = (x - 1).toNat) then (L[i]?).map (fun c => blankC c.a) else L[i]? := by
  unfold partL
  split
  · rename_i h
    rw [List.getElem?_set, List.getElem?_set]
    by_cases h1 : i = x.toNat
    · subst h1
      rw [if_pos rfl, if_pos (by rw [List.length_set]; omega), if_pos ⟨h.1, h.2.1, h.2.2, .inl rfl⟩, List.getD_eq_getElem?_getD, List.getElem?_eq_getElem (by omega)]; rfl
    · rw [if_neg (by omega)]
      by_cases h2 : i = (x - 1).toNat
      · subst h2
        rw [if_pos rfl, if_pos (by omega), if_pos ⟨h.1, h.2.1, h.2.2, .inr rfl⟩, List.getD_eq_getElem?_getD, List.getElem?_eq_getElem (by omega)]; rfl
      · rw [if_neg (by omega), if_neg (by omega)]
  · rename_i h
    rw [if_neg (by rintro ⟨a, b, c, _⟩; exact h ⟨a, b, c⟩)]

def insertL (L : List Cell) (x n : Int) (a : Attr) : List Cell :=
  if roomL L.length x n = 0 then L else
  let k := (roomL L.length x n).toNat
  let P := partL (partL L x) (L.length - roomL L.length x n)
  P.take x.toNat ++ List.replicate k (blankC a) ++ (P.drop x.toNat).take (L.length - k - x.toNat)
def deleteL (L : List Cell) (x n : Int) (a : Attr) : List Cell :=
  if roomL L.length x n = 0 then L else
  let k := (roomL L.length x n).toNat
  let P := partL (partL L x) (x + roomL L.length x n)
  P.take x.toNat ++ P.drop (x.toNat + k) ++ List.replicate k (blankC a)
def eraseL (L : List Cell) (x n : Int) (a : Attr) : List Cell :=
  if roomL L.length x n = 0 then L else
  let k := (roomL L.length x n).toNat
  let P := partL (partL L x) (x + roomL L.length x n)
  P.take x.toNat ++ List.replicate k (blankC a) ++ P.drop (x.toNat + k)
theorem roomL_spec (m : Nat) (x n : Int) : roomL m x n = 0 ∨ (0 ≤ x ∧ 1 ≤ roomL m x n ∧ x + roomL m x n ≤ m) := by
  unfold roomL
  split <;> omega
theorem insertL_length (L : List Cell) (x n : Int) (a : Attr) : (insertL L x n a).length = L.length := by
  unfold insertL
  split
  · rfl
  · have := roomL_spec L.length x n
    simp only [List.length_append, List.length_take, List.length_drop, List.length_replicate, partL_length]; omega
theorem deleteL_length (L : List Cell) (x n : Int) (a : Attr) : (deleteL L x n a).length = L.length := by
  unfold deleteL
  split
  · rfl
  · have := roomL_spec L.length x n
    simp only [List.length_append, List.length_take, List.length_drop, List.length_replicate, partL_length]; omega
theorem eraseL_length (L : List Cell) (x n : Int) (a : Attr) : (eraseL L x n a).length = L.length := by
  unfold eraseL
  split
  · rfl
  · have := roomL_spec L.length x n
    simp only [List.length_append, List.length_take, List.length_drop, List.length_replicate, partL_length]; omega

theorem ins_eq {α : Type} {P : List α} {x k : Nat} {b : α} (h : x + k ≤ P.length) : fillL (P.take (x + k) ++ ((P.drop x).take (P.length - k - x)).take (P.length - (x + k)) ++ P.drop ((x + k) + min ((P.drop x).take (P.length - k - x)).length (P.length - (x + k)))) x ((x + k) - x) b = P.take x ++ List.replicate k b ++ (P.drop x).take (P.length - k - x) := by
  have h1 : P.length - k - x = P.length - (x + k) := by omega
  rw [h1]
  have hS : ((P.drop x).take (P.length - (x + k))).length = P.length - (x + k) := by rw [List.length_take, List.length_drop]; omega
  generalize (P.drop x).take (P.length - (x + k)) = S at *
  rw [hS, Nat.min_self, List.drop_of_length_le (show P.length ≤ x + k + (P.length - (x + k)) by omega), List.append_nil, List.take_of_length_le (show S.length ≤ P.length - (x + k) by omega)]
  unfold fillL
  rw [show x + k - x = k by omega, List.take_append_of_le_length (by rw [List.length_take]; omega), List.take_take, Nat.min_eq_left (by omega)]
  congr 1
  exact List.drop_left' (by rw [List.length_take]; omega)
theorem del_eq {α : Type} {P : List α} {x k : Nat} {b : α} (h : x + k ≤ P.length) : fillL (P.take x ++ ((P.drop (x + k)).take (P.length - (x + k))).take (P.length - x) ++ P.drop (x + min ((P.drop (x + k)).take (P.length - (x + k))).length (P.length - x))) (P.length - k) (P.length - (P.length - k)) b = P.take x ++ P.drop (x + k) ++ List.replicate k b := by
  have hS : (P.drop (x + k)).length = P.length - (x + k) := List.length_drop
  have e : (P.drop (x + k)).take (P.length - (x + k)) = P.drop (x + k) := List.take_of_length_le (by omega)
  rw [e]
  generalize P.drop (x + k) = S at *
  rw [List.take_of_length_le (show S.length ≤ P.length - x by omega), hS, Nat.min_eq_left (by omega)]
  unfold fillL
  rw [show P.length - (P.length - k) = k by omega]
  rw [List.take_append_of_le_length (by rw [List.length_append, List.length_take]; omega), List.take_of_length_le (by rw [List.length_append, List.length_take]; omega)]
  rw [List.drop_of_length_le (by simp only [List.length_append, List.length_take, List.length_drop]; omega), List.append_nil]


theorem w42 {v : SV} {L : List Cell} {h : Heap} {x n : Int} (a : Attr) (hv : SlR cellE (Now h) v L) (hl : L.length ≤ 10000000000000) (hx : -9223372036854775808 ≤ x ∧ x ≤ 9223372036854775807) :
    Wc DD 42 [.sc v, i64 x, i64 n, .agg (attrE.enc a)] h fun w h' => ∃ u c, w = .sc u ∧ AccS cellE 34 u (eraseL L x n a) c ∧ Sep (Now h) [c] h' := by
  have hs := Sep.entry h
  have hr := roomL_spec L.length x n
  refine W_enter d42 ?_
  show W _ (.code m42_code [.sc v, i64 x, i64 n, .agg (attrE.enc a), undefA, undefA, undefA, undefA, undefA, undefA, undefA, undefA, undefA, undefA, undefA, undefA, undefA, undefA, undefA, undefA, undefA, undefA, undefA, undefA, undefA, undefA, undefA, undefA, undefA, undefA, undefA, undefA, undefA, undefA, undefA] _) _
  unfold m42_code
  repeat' (first
    | (refine K_ops ?_; first
      | refine W_fastB rfl ?_
      | refine W_nil ?_
      | (refine K_call ?_; first
        | (refine W_callsN 21 rfl (w21 (SlR.now hs hv) hl) rfl ?_; rintro _ h2 ⟨u, c, rfl, ha, t⟩; replace hs := hs.call t; try simp only [cell_back, attr_back, List.set_cons_zero, List.set_cons_succ, List.eraseIdx_cons_succ, List.eraseIdx_zero, List.tail_cons, List.nil_append, List.cons_append] at hs; refine W_norm rfl ?_)
        | (refine W_callsN 46 rfl (w46 hv.ln hl) rfl ?_; rintro _ _ ⟨rfl, rfl⟩; refine W_norm rfl ?_)
        | (refine W_callsN 47 rfl (w47 hs ha (by (try simp only [partL_length]); exact hl)) rfl ?_; rintro _ h3 ⟨rfl, c, ha, hs⟩; refine W_norm rfl ?_)
      )
      | (refine K_bin ?_; first
        | (refine W_add rfl rfl (IntWalk.i64_in _ (by first | omega | (simp only [List.length_set, List.length_append, List.length_take, List.length_drop, List.length_replicate, List.length_cons, List.length_nil, decs_length, List.length_map]; omega))) ?_; refine W_norm rfl ?_)
      )
      | (refine W_boxS hs rfl rfl ?_; clear hs; intro bx _ hs; try simp only [cell_back, attr_back, List.set_cons_zero, List.set_cons_succ, List.eraseIdx_cons_succ, List.eraseIdx_zero, List.tail_cons, List.nil_append, List.cons_append] at hs; refine W_norm rfl ?_)
    )
    | (refine K_code ?_; first
      | refine W_seq ?_
      | refine W_ops ?_
      | (refine W_cond rfl (fun hc => ?_) (fun hc => ?_) <;> (try rw [hc]) <;> (try simp only [decide_eq_true_eq, decide_eq_false_iff_not, beq_iff_eq, beq_eq_false_iff_ne, bne_iff_ne, bne_eq_false_iff_eq, Bool.not_eq_true', Bool.not_eq_false', Int.not_lt, Int.not_le, ne_eq, reduceCtorEq, not_true_eq_false, not_false_eq_true, Decidable.not_not] at hc) <;> (try (exfalso; omega)) <;> (try refine W_norm rfl ?_))
      | refine W_skip ?_
      | refine W_ret ?_
      | refine W_draw rfl ?_
    )
    | refine seqK_n ?_
    | refine seqK_r ?_
    | (refine fnK_r rfl ?_; try dsimp only [gd_z, gd_s]))
  · refine ⟨_, rfl, _, _, rfl, ?_, hs.drop 1⟩
    unfold eraseL
    rw [if_pos hc]; exact ha
  · obtain ⟨id, kd, rfl, rfl, hk⟩ := ha.pos (by simp only [partL_length]; omega)
    have hlen : (partL (partL L x) (x + roomL L.length x n)).length = L.length := by simp only [partL_length]
    repeat' (first
      | (refine K_ops ?_; first
        | refine W_fastB rfl ?_
        | refine W_nil ?_
        | (refine K_call ?_; first
          | (refine W_callsN 34 rfl (w34 a hs (by assumption) (by rw [hlen]; omega) (by rw [hlen]; exact hl) hk) rfl ?_; rintro _ h3 ⟨rfl, hs⟩; refine W_norm rfl ?_)
        )
        | (refine K_load ?_; first
          | (refine W_loadCA hs 1 rfl rfl rfl ?_; refine W_norm rfl ?_)
        )
        | (refine K_slice ?_; first
          | (refine W_sliceO0 rfl rfl rfl (by first | omega | (simp only [List.length_set, List.length_append, List.length_take, List.length_drop, List.length_replicate, List.length_cons, List.length_nil, decs_length, List.length_map]; omega)) ⟨(by first | omega | (simp only [List.length_set, List.length_append, List.length_take, List.length_drop, List.length_replicate, List.length_cons, List.length_nil, decs_length, List.length_map]; omega)), (by first | omega | (simp only [List.length_set, List.length_append, List.length_take, List.length_drop, List.length_replicate, List.length_cons, List.length_nil, decs_length, List.length_map]; omega)), (by first | omega | (simp only [List.length_set, List.length_append, List.length_take, List.length_drop, List.length_replicate, List.length_cons, List.length_nil, decs_length, List.length_map]; omega))⟩ ?_; intro _ _; refine W_norm rfl ?_)
        )
      )
      | (refine K_code ?_; first
        | refine W_seq ?_
        | refine W_ops ?_
        | refine W_ret ?_
      )
      | refine seqK_n ?_
      | (refine fnK_r rfl ?_; try dsimp only [gd_z, gd_s]))
    have e : fillL (partL (partL L x) (x + roomL L.length x n)) x.toNat ((x + roomL L.length x n).toNat - x.toNat) (blankC a) = eraseL L x n a := by
      unfold eraseL fillL
      rw [if_neg hc, show (x + roomL L.length x n).toNat - x.toNat = (roomL L.length x n).toNat by omega]
    rw [e] at hs
    exact ⟨_, rfl, _, _, rfl, AccS.again hk (by rw [eraseL_length, hlen]), hs.drop 1⟩





theorem w44 {v : SV} {L : List Cell} {h : Heap} {x n : Int} (a : Attr) (hv : SlR cellE (Now h) v L) (hl : L.length ≤ 10000000000000) :
    Wc DD 44 [.sc v, i64 x, i64 n, .agg (attrE.enc a)] h fun w h' => ∃ u c, w = .sc u ∧ AccS cellE 34 u (deleteL L x n a) c ∧ Sep (Now h) [c] h' := by
  have hs := Sep.entry h
  have hr := roomL_spec L.length x n
  have hpl := partL_length L x
  refine W_enter d44 ?_
  show W _ (.code m44_code [.sc v, i64 x, i64 n, .agg (attrE.enc a), undefA, undefA, undefA, undefA, undefA, undefA, undefA, undefA, undefA, undefA, undefA, undefA, undefA, undefA, undefA, undefA, undefA, undefA, undefA, undefA, undefA, undefA, undefA, undefA, undefA, undefA, undefA, undefA, undefA, undefA, undefA, undefA, undefA, undefA, undefA, undefA, undefA, undefA, undefA, undefA] _) _
  unfold m44_code
  repeat' (first
    | (refine K_ops ?_; first
      | refine W_fastB rfl ?_
      | refine W_nil ?_
      | (refine K_call ?_; first
        | (refine W_callsN 21 rfl (w21 (SlR.now hs hv) hl) rfl ?_; rintro _ h2 ⟨u, c, rfl, ha, t⟩; replace hs := hs.call t; try simp only [cell_back, attr_back, List.set_cons_zero, List.set_cons_succ, List.eraseIdx_cons_succ, List.eraseIdx_zero, List.tail_cons, List.nil_append, List.cons_append] at hs; refine W_norm rfl ?_)
        | (refine W_callsN 46 rfl (w46 hv.ln hl) rfl ?_; rintro _ _ ⟨rfl, rfl⟩; refine W_norm rfl ?_)
        | (refine W_callsN 47 rfl (w47 hs ha (by (try simp only [partL_length]); exact hl)) rfl ?_; rintro _ h3 ⟨rfl, c, ha, hs⟩; refine W_norm rfl ?_)
      )
      | (refine K_bin ?_; first
        | (refine W_add rfl rfl (IntWalk.i64_in _ (by first | omega | (simp only [List.length_set, List.length_append, List.length_take, List.length_drop, List.length_replicate, List.length_cons, List.length_nil, decs_length, List.length_map]; omega))) ?_; refine W_norm rfl ?_)
      )
      | (refine W_boxS hs rfl rfl ?_; clear hs; intro bx _ hs; try simp only [cell_back, attr_back, List.set_cons_zero, List.set_cons_succ, List.eraseIdx_cons_succ, List.eraseIdx_zero, List.tail_cons, List.nil_append, List.cons_append] at hs; refine W_norm rfl ?_)
    )
    | (refine K_code ?_; first
      | refine W_seq ?_
      | refine W_ops ?_
      | (refine W_cond rfl (fun hc => ?_) (fun hc => ?_) <;> (try rw [hc]) <;> (try simp only [decide_eq_true_eq, decide_eq_false_iff_not, beq_iff_eq, beq_eq_false_iff_ne, bne_iff_ne, bne_eq_false_iff_eq, Bool.not_eq_true', Bool.not_eq_false', Int.not_lt, Int.not_le, ne_eq, reduceCtorEq, not_true_eq_false, not_false_eq_true, Decidable.not_not] at hc) <;> (try (exfalso; omega)) <;> (try refine W_norm rfl ?_))
      | refine W_skip ?_
      | refine W_ret ?_
      | refine W_draw rfl ?_
    )
    | refine seqK_n ?_
    | refine seqK_r ?_
    | (refine fnK_r rfl ?_; try dsimp only [gd_z, gd_s]))
  · refine ⟨_, rfl, _, _, rfl, ?_, hs.drop 1⟩
    unfold deleteL
    rw [if_pos hc]; exact ha
  · have hlen : (partL (partL L x) (x + roomL L.length x n)).length = L.length := by simp only [partL_length]
    have e : deleteL L x n a = (let P := partL (partL L x) (x + roomL L.length x n); P.take x.toNat ++ P.drop (x.toNat + (roomL L.length x n).toNat) ++ List.replicate (roomL L.length x n).toNat (blankC a)) := by
      unfold deleteL; rw [if_neg hc]
    rw [e]
    generalize partL (partL L x) (x + roomL L.length x n) = P at *
    generalize roomL L.length x n = k at *
    obtain ⟨id, kd, rfl, rfl, hk⟩ := ha.pos (by omega)
    repeat' (first
      | (refine K_ops ?_; first
        | refine W_fastB rfl ?_
        | refine W_nil ?_
        | (refine K_call ?_; first
          | (refine W_callsN 34 rfl (w34 a hs (by assumption) (by simp only [List.length_append, List.length_take, List.length_drop]; omega) (by simp only [List.length_append, List.length_take, List.length_drop]; omega) hk) rfl ?_; rintro _ h3 ⟨rfl, hs⟩; refine W_norm rfl ?_)
        )
        | (refine W_lenL rfl (by first | assumption | exact SlR.ln (by assumption) | exact AccS.ln (by assumption) | exact OwnS.ln (by assumption) | exact VwO.ln (by assumption) | exact OwnP.ln (by assumption) | exact Len.sl) ?_; refine W_norm rfl ?_)
        | (refine K_bin ?_; first
          | (refine W_add rfl rfl (IntWalk.i64_in _ (by first | omega | (simp only [List.length_set, List.length_append, List.length_take, List.length_drop, List.length_replicate, List.length_cons, List.length_nil, decs_length, List.length_map]; omega))) ?_; refine W_norm rfl ?_)
          | (refine W_sub rfl rfl (IntWalk.i64_in _ (by first | omega | (simp only [List.length_set, List.length_append, List.length_take, List.length_drop, List.length_replicate, List.length_cons, List.length_nil, decs_length, List.length_map]; omega))) ?_; refine W_norm rfl ?_)
        )
        | (refine K_load ?_; first
          | (refine W_loadCA hs 1 rfl rfl rfl ?_; refine W_norm rfl ?_)
        )
        | (refine K_slice ?_; first
          | (refine W_sliceO0From rfl rfl (by first | omega | (simp only [List.length_set, List.length_append, List.length_take, List.length_drop, List.length_replicate, List.length_cons, List.length_nil, decs_length, List.length_map]; omega)) ⟨(by first | omega | (simp only [List.length_set, List.length_append, List.length_take, List.length_drop, List.length_replicate, List.length_cons, List.length_nil, decs_length, List.length_map]; omega)), (by first | omega | (simp only [List.length_set, List.length_append, List.length_take, List.length_drop, List.length_replicate, List.length_cons, List.length_nil, decs_length, List.length_map]; omega))⟩ ?_; intro _ _; refine W_norm rfl ?_)
        )
        | (refine K_copy ?_; first
          | (refine W_copyV hs 0 rfl rfl (by first | assumption | exact VwO.whole) rfl (by first | decide | assumption) rfl (by first | omega | (simp only [List.length_set, List.length_append, List.length_take, List.length_drop, List.length_replicate, List.length_cons, List.length_nil, decs_length, List.length_map]; omega)) (by first | exact VwO.sl (by assumption) (hs.at1 0 rfl) (by first | omega | (simp only [List.length_set, List.length_append, List.length_take, List.length_drop, List.length_replicate, List.length_cons, List.length_nil, decs_length, List.length_map]; omega)) | exact VwO.sl (by assumption) (hs.at1 1 rfl) (by first | omega | (simp only [List.length_set, List.length_append, List.length_take, List.length_drop, List.length_replicate, List.length_cons, List.length_nil, decs_length, List.length_map]; omega)) | exact VwO.sl (by assumption) (hs.at1 2 rfl) (by first | omega | (simp only [List.length_set, List.length_append, List.length_take, List.length_drop, List.length_replicate, List.length_cons, List.length_nil, decs_length, List.length_map]; omega)) | assumption | exact SlR.now hs (by assumption) | exact AccS.now (by assumption) hs (by simp) | exact OwnS.now (by assumption) hs (by simp)) ?_; clear hs; intro _ hs; try simp only [cell_back, attr_back, List.set_cons_zero, List.set_cons_succ, List.eraseIdx_cons_succ, List.eraseIdx_zero, List.tail_cons, List.nil_append, List.cons_append] at hs; refine W_norm rfl ?_)
        )
      )
      | (refine K_code ?_; first
        | refine W_seq ?_
        | refine W_ops ?_
        | refine W_ret ?_
        | refine W_draw rfl ?_
      )
      | refine seqK_n ?_
      | (refine fnK_r rfl ?_; try dsimp only [gd_z, gd_s]))
    have e2 := del_eq (b := blankC a) (show x.toNat + k.toNat ≤ P.length by omega)
    rw [show (x + k).toNat = x.toNat + k.toNat by omega, show ((P.length : Int) - k).toNat = P.length - k.toNat by omega] at hs
    rw [e2] at hs
    exact ⟨_, rfl, _, _, rfl, AccS.again hk (by simp only [List.length_append, List.length_take, List.length_drop, List.length_replicate]; omega), hs.drop 1⟩

end Go.Proofs.YtfmldkjidfigbaaDoor
/- Rows: Write, Resize, Whole. -/
set_option linter.unusedSimpArgs false
set_option linter.unusedVariables false
set_option maxHeartbeats 1000000
set_option maxRecDepth 100000
namespace Go.Proofs.YtfmldkjidfigbaaDoor
open Go Go.Jx

theorem set2_eq {α : Type} {P : List α} {i : Nat} {a b : α} (h : i + 2 ≤ P.length) : (P.set i a).set (i + 1) b = P.take i ++ [a, b] ++ P.drop (i + 2) := by
  have h1 : P = P.take i ++ P[i]'(by omega) :: P[i + 1]'(by omega) :: P.drop (i + 2) := by
    rw [← List.drop_eq_getElem_cons (show i + 1 < P.length by omega), ← List.drop_eq_getElem_cons (show i < P.length by omega), List.take_append_drop]
  generalize P[i]'(by omega) = x at h1
  generalize P[i + 1]'(by omega) = y at h1
  have hA : (P.take i).length = i := by rw [List.length_take]; omega
  generalize P.take i = A at *
  generalize P.drop (i + 2) = B at *
  subst h1
  subst hA
  rw [List.set_append_right _ _ (Nat.le_refl _), Nat.sub_self, List.set_cons_zero, List.set_append_right _ _ (by omega), show A.length + 1 - A.length = 1 by omega]
  simp

def resizeL (L : List Cell) (w : Int) (a : Attr) : List Cell :=
  if w < 1 ∨ 400 < w then L else if w ≤ L.length then (partL L w).take w.toNat else L ++ List.replicate (w.toNat - L.length) (blankC a)
theorem partL_end {L : List Cell} {x : Int} (h : L.length ≤ x) : partL L x = L := by
  unfold partL
  rw [if_neg (by omega)]


theorem w43 {v : SV} {L : List Cell} {h : Heap} {n : Int} (a : Attr) (hv : SlR cellE (Now h) v L) (hl : L.length ≤ 10000000000000) :
    Wc DD 43 [.sc v, i64 n, .agg (attrE.enc a)] h fun w h' => ∃ u c, w = .sc u ∧ OwnP cellE 34 u (resizeL L n a) c ∧ Sep (Now h) [c] h' := by
  have hs := Sep.entry h
  have hpl := partL_length L n
  refine W_enter d43 ?_
  show W _ (.code m43_code [.sc v, i64 n, .agg (attrE.enc a), undefA, undefA, undefA, undefA, undefA, undefA, undefA, undefA, undefA, undefA, undefA, undefA, undefA, undefA, undefA, undefA, undefA, undefA, undefA, undefA, undefA, undefA, undefA, undefA, undefA, undefA, undefA, undefA, undefA, undefA, undefA] _) _
  unfold m43_code
  repeat' (first
    | (refine K_ops ?_; first
      | refine W_fastB rfl ?_
      | refine W_nil ?_
      | (refine K_guard ?_; first
        | refine W_guard_on rfl ?_
        | refine W_guard_off rfl rfl (W_norm rfl ?_)
        | (refine W_guardF rfl (fun hc => ?_) (fun hc => ?_) <;> (try rw [hc]) <;> (try simp only [decide_eq_true_eq, decide_eq_false_iff_not, beq_iff_eq, beq_eq_false_iff_ne, bne_iff_ne, bne_eq_false_iff_eq, Bool.not_eq_true', Bool.not_eq_false', Int.not_lt, Int.not_le, ne_eq, reduceCtorEq, not_true_eq_false, not_false_eq_true, Decidable.not_not] at hc) <;> (try (exfalso; omega)) <;> (try refine W_norm rfl ?_))
      )
      | (refine K_call ?_; first
        | (refine W_callsN 21 rfl (w21 (SlR.now hs hv) hl) rfl ?_; rintro _ h2 ⟨u, c, rfl, ha, t⟩; replace hs := hs.call t; try simp only [cell_back, attr_back, List.set_cons_zero, List.set_cons_succ, List.eraseIdx_cons_succ, List.eraseIdx_zero, List.tail_cons, List.nil_append, List.cons_append] at hs; refine W_norm rfl ?_)
        | (refine W_callsN 47 rfl (w47 hs ha (by (try simp only [partL_length]); exact hl)) rfl ?_; rintro _ h3 ⟨rfl, c, ha, hs⟩; refine W_norm rfl ?_)
        | (refine W_callsN 17 rfl (w17 _ a _) rfl ?_; rintro _ h3 ⟨u2, c2, rfl, hb, t⟩; replace hs := hs.call t; try simp only [cell_back, attr_back, List.set_cons_zero, List.set_cons_succ, List.eraseIdx_cons_succ, List.eraseIdx_zero, List.tail_cons, List.nil_append, List.cons_append] at hs; refine W_norm rfl ?_)
      )
      | (refine W_lenL rfl (by first | assumption | exact SlR.ln (by assumption) | exact AccS.ln (by assumption) | exact OwnS.ln (by assumption) | exact VwO.ln (by assumption) | exact OwnP.ln (by assumption) | exact Len.sl) ?_; refine W_norm rfl ?_)
      | (refine K_bin ?_; first
        | (refine W_sub rfl rfl (IntWalk.i64_in _ (by first | omega | (simp only [List.length_set, List.length_append, List.length_take, List.length_drop, List.length_replicate, List.length_cons, List.length_nil, decs_length, List.length_map]; omega))) ?_; refine W_norm rfl ?_)
      )
      | (refine K_pick ?_; first
        | refine W_pick_t rfl rfl (W_norm rfl ?_)
        | refine W_pick_f rfl rfl (W_norm rfl ?_)
      )
      | (refine K_load ?_; first
        | (refine W_loadCA hs 1 rfl rfl rfl ?_; refine W_norm rfl ?_)
      )
      | (refine W_boxS hs rfl rfl ?_; clear hs; intro bx _ hs; try simp only [cell_back, attr_back, List.set_cons_zero, List.set_cons_succ, List.eraseIdx_cons_succ, List.eraseIdx_zero, List.tail_cons, List.nil_append, List.cons_append] at hs; refine W_norm rfl ?_)
    )
    | (refine K_code ?_; first
      | refine W_seq ?_
      | refine W_ops ?_
      | refine W_cond_t rfl ?_
      | (refine W_cond rfl (fun hc => ?_) (fun hc => ?_) <;> (try rw [hc]) <;> (try simp only [decide_eq_true_eq, decide_eq_false_iff_not, beq_iff_eq, beq_eq_false_iff_ne, bne_iff_ne, bne_eq_false_iff_eq, Bool.not_eq_true', Bool.not_eq_false', Int.not_lt, Int.not_le, ne_eq, reduceCtorEq, not_true_eq_false, not_false_eq_true, Decidable.not_not] at hc) <;> (try (exfalso; omega)) <;> (try refine W_norm rfl ?_))
      | refine W_skip ?_
      | refine W_ret ?_
    )
    | refine seqK_n ?_
    | refine seqK_r ?_
    | (refine fnK_r rfl ?_; try dsimp only [gd_z, gd_s]))
  · exact ⟨_, rfl, _, _, rfl, by unfold resizeL; rw [if_pos (by omega)]; exact ha.p, hs.drop 1⟩
  · obtain ⟨id, kd, rfl, rfl, hk⟩ := ha.pos (by omega)
    repeat' (first
      | (refine K_ops ?_; first
        | refine W_fastB rfl ?_
        | refine W_nil ?_
        | (refine K_slice ?_; first
          | (refine W_sliceO0To rfl rfl (by first | omega | (simp only [List.length_set, List.length_append, List.length_take, List.length_drop, List.length_replicate, List.length_cons, List.length_nil, decs_length, List.length_map]; omega)) ⟨(by first | omega | (simp only [List.length_set, List.length_append, List.length_take, List.length_drop, List.length_replicate, List.length_cons, List.length_nil, decs_length, List.length_map]; omega)), (by first | omega | (simp only [List.length_set, List.length_append, List.length_take, List.length_drop, List.length_replicate, List.length_cons, List.length_nil, decs_length, List.length_map]; omega))⟩ ?_; intro _ _; refine W_norm rfl ?_)
        )
      )
      | (refine K_code ?_; first
        | refine W_ret ?_
      )
      | refine seqK_n ?_
      | refine seqK_r ?_
      | (refine fnK_r rfl ?_; try dsimp only [gd_z, gd_s]))
    rename_i hw
    refine ⟨_, rfl, _, _, rfl, ?_, hs.drop 1⟩
    unfold resizeL; rw [if_neg (by omega), if_pos (by omega)]
    exact hw.p (by omega) (by omega) hk
  · rw [if_pos (by omega)] at hb
    rw [partL_end (by omega)] at *
    repeat' (first
      | (refine K_ops ?_; first
        | refine W_fastB rfl ?_
        | refine W_nil ?_
        | (refine K_append ?_; first
          | (refine W_appS hs 1 rfl rfl (by assumption) rfl (by first | assumption | exact SlR.now hs (by assumption) | exact AccS.now (by assumption) hs (by simp) | exact OwnS.now (by assumption) hs (by simp)) rfl ⟨by decide, (by first | omega | (simp only [List.length_set, List.length_append, List.length_take, List.length_drop, List.length_replicate, List.length_cons, List.length_nil, decs_length, List.length_map]; omega))⟩ ?_; clear hs; intro _ _ _ _ hs; try simp only [cell_back, attr_back, List.set_cons_zero, List.set_cons_succ, List.eraseIdx_cons_succ, List.eraseIdx_zero, List.tail_cons, List.nil_append, List.cons_append] at hs; refine W_norm rfl ?_)
        )
      )
      | (refine K_code ?_; first
        | refine W_ret ?_
      )
      | refine seqK_n ?_
      | (refine fnK_r rfl ?_; try dsimp only [gd_z, gd_s]))
    rename_i hd
    refine ⟨_, rfl, _, _, rfl, ?_, (hs.drop 2).drop 0⟩
    unfold resizeL; rw [if_neg (by omega), if_neg (by omega)]
    rw [show (n - (L.length : Int)).toNat = n.toNat - L.length by omega] at hd
    exact hd.p
  · exact ⟨_, rfl, _, _, rfl, by unfold resizeL; rw [if_pos (by omega)]; exact ha.p, hs.drop 1⟩





def wholeB : List Cell → Bool
  | [] => true
  | [c] => c.w == 0
  | c :: d :: l => if c.w = 0 then wholeB (d :: l) else c.w == 1 && d.w == 2 && wholeB l
theorem drop_getD {α : Type} {L : List α} {k : Nat} (d : α) (h : k < L.length) : L.drop k = L.getD k d :: L.drop (k + 1) := by
  rw [List.drop_eq_getElem_cons h, List.getD_eq_getElem?_getD, List.getElem?_eq_getElem h]; rfl
theorem wholeB_0 {L : List Cell} {k : Nat} (h : k < L.length) (hw : (L.getD k cell0).w = 0) : wholeB (L.drop k) = wholeB (L.drop (k + 1)) := by
  rw [drop_getD cell0 h]
  cases hd : L.drop (k + 1) with
  | nil => show ((L.getD k cell0).w == 0) = true; rw [hw]; rfl
  | cons d l => simp only [wholeB]; rw [if_pos hw]
theorem wholeB_1 {L : List Cell} {k : Nat} (h : k + 1 < L.length) (hw : (L.getD k cell0).w = 1) : wholeB (L.drop k) = ((L.getD (k + 1) cell0).w == 2 && wholeB (L.drop (k + 2))) := by
  rw [drop_getD cell0 (show k < L.length by omega), drop_getD cell0 h]
  simp only [wholeB]
  rw [if_neg (by omega), hw]; simp
theorem wholeB_f {L : List Cell} {k : Nat} (h : k < L.length) (hw : (L.getD k cell0).w ≠ 0) (h1 : (L.getD k cell0).w ≠ 1 ∨ L.length ≤ k + 1) : wholeB (L.drop k) = false := by
  rw [drop_getD cell0 h]
  cases hd : L.drop (k + 1) with
  | nil => show ((L.getD k cell0).w == 0) = false; rw [beq_eq_false_iff_ne]; exact hw
  | cons d l =>
    simp only [wholeB]
    rw [if_neg hw]
    rcases h1 with h1 | h1
    · rw [beq_eq_false_iff_ne.2 h1]; rfl
    · have := congrArg List.length hd
      simp at this; omega
theorem w33 {v : SV} {L : List Cell} {h : Heap} (hv : SlR cellE (Now h) v L) (hl : L.length ≤ 10000000000000) : Wc DD 33 [.sc v] h fun w h' => w = bo (wholeB L) ∧ h' = h := by
  have hs := Sep.entry h
  refine W_enter d33 ?_
  show W _ (.code m33_code [.sc v, undefA, undefA, undefA, undefA, undefA, undefA, undefA, undefA, undefA, undefA, undefA, undefA, undefA, undefA, undefA, undefA, undefA, undefA, undefA, undefA, undefA, undefA, undefA, undefA, undefA, undefA, undefA, undefA, undefA, undefA, undefA, undefA, undefA, undefA, undefA, undefA, undefA, undefA, undefA, undefA, undefA] _) _
  unfold m33_code
  repeat' (first
    | (refine K_ops ?_; first
      | refine W_fastB rfl ?_
      | refine W_nil ?_
    )
    | (refine K_code ?_; first
      | refine W_seq ?_
      | refine W_ops ?_
      | refine W_block ?_
    )
    | refine seqK_n ?_)
  refine W_loopB [2, 3, 4, 5, 6, 7, 8, 9, 10, 11, 12, 13, 14, 15, 16, 17, 18, 19, 20, 21, 22, 23, 24, 25, 26, 27, 28, 29, 30, 31, 32, 33, 34, 35, 36, 37, 38, 39, 40, 41] [0, 1, 2, 3, 4, 5, 6, 7, 8, 9, 10, 11, 12, 13, 14, 15, 16, 17, 18, 19, 20, 21, 22, 23, 24, 25, 26, 27, 28, 29, 30, 31, 32, 33, 34, 35, 36, 37, 38, 39, 40, 41] (fun n' sl h' => ∃ (k : Nat), sl = [(3, .sc (.int .i64 (k : Int)))] ∧ n' = L.length - k ∧ k ≤ L.length ∧ h' = h ∧ wholeB L = wholeB (L.drop k)) ?_ ?_
  · refine ⟨_, _, ⟨0, rfl, rfl, Nat.zero_le _, rfl, rfl⟩, EnvB.of rfl⟩
  rintro _ _ us _ h2 ⟨k, rfl, rfl, hk, rfl, hw⟩ he
  refine W_spell he rfl ?_
  clear he
  unfold m33_l2
  repeat' (first
    | (refine K_ops ?_; first
      | refine W_fastB rfl ?_
      | refine W_nil ?_
      | (refine K_guard ?_; first
        | refine W_guard_on rfl ?_
        | refine W_guard_off rfl rfl (W_norm rfl ?_)
        | (refine W_guardT rfl (fun hc => ?_) (fun hc => ?_) <;> (try rw [hc]) <;> (try simp only [decide_eq_true_eq, decide_eq_false_iff_not, beq_iff_eq, beq_eq_false_iff_ne, bne_iff_ne, bne_eq_false_iff_eq, Bool.not_eq_true', Bool.not_eq_false', Int.not_lt, Int.not_le, ne_eq, reduceCtorEq, not_true_eq_false, not_false_eq_true, Decidable.not_not] at hc) <;> (try (exfalso; omega)) <;> (try refine W_norm rfl ?_))
      )
      | (refine W_lenL rfl (by first | assumption | exact SlR.ln (by assumption) | exact AccS.ln (by assumption) | exact OwnS.ln (by assumption) | exact VwO.ln (by assumption) | exact OwnP.ln (by assumption) | exact Len.sl) ?_; refine W_norm rfl ?_)
      | (refine K_bin ?_; first
        | (refine W_add rfl rfl (IntWalk.i64_in _ (by first | omega | (simp only [List.length_set, List.length_append, List.length_take, List.length_drop, List.length_replicate, List.length_cons, List.length_nil, decs_length, List.length_map]; omega))) ?_; refine W_norm rfl ?_)
      )
      | (refine K_pick ?_; first
        | refine W_pick_t rfl rfl (W_norm rfl ?_)
        | refine W_pick_f rfl rfl (W_norm rfl ?_)
      )
      | (refine K_index ?_; first
        | (refine W_indexR rfl rfl (by assumption) rfl ⟨(by first | omega | (simp only [List.length_set, List.length_append, List.length_take, List.length_drop, List.length_replicate, List.length_cons, List.length_nil, decs_length, List.length_map]; omega)), (by first | omega | (simp only [List.length_set, List.length_append, List.length_take, List.length_drop, List.length_replicate, List.length_cons, List.length_nil, decs_length, List.length_map]; omega))⟩ ?_; intro _ _ _; refine W_norm rfl ?_)
      )
      | (refine K_load ?_; first
        | (refine W_loadRF hs rfl (by assumption) rfl ?_; refine W_norm rfl ?_)
      )
    )
    | (refine K_code ?_; first
      | refine W_seq ?_
      | refine W_ops ?_
      | refine W_cond_f rfl ?_
      | (refine W_cond rfl (fun hc => ?_) (fun hc => ?_) <;> (try rw [hc]) <;> (try simp only [decide_eq_true_eq, decide_eq_false_iff_not, beq_iff_eq, beq_eq_false_iff_ne, bne_iff_ne, bne_eq_false_iff_eq, Bool.not_eq_true', Bool.not_eq_false', Int.not_lt, Int.not_le, ne_eq, reduceCtorEq, not_true_eq_false, not_false_eq_true, Decidable.not_not] at hc) <;> (try (exfalso; omega)) <;> (try refine W_norm rfl ?_))
      | refine W_skip ?_
      | refine W_ret ?_
      | refine W_exit ?_
      | refine W_block ?_
    )
    | refine seqK_n ?_
    | refine seqK_r ?_
    | refine seqK_x ?_
    | refine blockK_r ?_
    | refine blockK_n ?_
    | refine blockK_e ?_
    | refine invK_x ?_
    | refine invK_r ?_
    | refine invK_n ?_
    | (refine fnK_r rfl ?_; try dsimp only [gd_z, gd_s]))
  all_goals simp only [Int.toNat_natCast, cellE_dflt, show ((k : Int) + 1).toNat = k + 1 by omega] at *
  · refine ⟨_, ?_, _, ⟨k + 1, rfl, rfl, ?_, by trivial, ?_⟩, EnvB.of rfl⟩
    · omega
    · omega
    · rw [hw, wholeB_0 (by omega) hc]
  · refine ⟨_, ?_, _, ⟨k + 2, rfl, rfl, ?_, by trivial, ?_⟩, EnvB.of rfl⟩
    · rename_i hc2 _ _ _ _
      omega
    · omega
    · rename_i h1 _ _ _ _
      rw [hw, wholeB_1 (by omega) h1, hc]; rfl
  · rename_i h1 _ _ _ _
    refine ⟨_, rfl, ?_, by trivial⟩
    rw [hw, wholeB_1 (by omega) h1, beq_eq_false_iff_ne.2 hc]; rfl
  · rename_i h1 _
    exact ⟨_, rfl, by rw [hw, wholeB_f (by omega) (by first | assumption | omega) (.inr (by omega))], by trivial⟩
  · exact ⟨_, rfl, by rw [hw, wholeB_f (by omega) (by first | assumption | omega) (.inl (by first | assumption | omega))], by trivial⟩
  · refine ⟨_, rfl, ?_, by trivial⟩
    rw [hw, List.drop_of_length_le (by omega)]; rfl

end Go.Proofs.YtfmldkjidfigbaaDoor
/- Rows, plain: what is whole. -/
set_option linter.unusedSimpArgs false
set_option linter.unusedVariables false
namespace Go.Proofs.YtfmldkjidfigbaaDoor
open Go Go.Jx

/-- Each column that is a second one stands behind a first one, and so on. -/
def W3 (L : List Cell) : Prop := ∀ (i : Nat) (c : Cell), L[i]? = some c → c.w = 0 ∨ (c.w = 1 ∧ ∃ d, L[i + 1]? = some d ∧ d.w = 2) ∨ (c.w = 2 ∧ ∃ j d, i = j + 1 ∧ L[j]? = some d ∧ d.w = 1)

theorem W3_0 {c : Cell} {L : List Cell} (h : c.w = 0) : W3 (c :: L) ↔ W3 L := by
  constructor
  · intro k i x hx
    rcases k (i + 1) x hx with h1 | ⟨h1, d, h2, h3⟩ | ⟨h1, j, d, h2, h3, h4⟩
    · exact .inl h1
    · exact .inr (.inl ⟨h1, d, h2, h3⟩)
    · cases j with
      | zero => simp at h3; subst h3; omega
      | succ j => exact .inr (.inr ⟨h1, j, d, by omega, by simpa using h3, h4⟩)
  · intro k i x hx
    cases i with
    | zero => simp at hx; subst hx; exact .inl h
    | succ i =>
      rcases k i x (by simpa using hx) with h1 | ⟨h1, d, h2, h3⟩ | ⟨h1, j, d, h2, h3, h4⟩
      · exact .inl h1
      · exact .inr (.inl ⟨h1, d, by simpa using h2, h3⟩)
      · exact .inr (.inr ⟨h1, j + 1, d, by omega, by simpa using h3, h4⟩)
theorem W3_12 {c d : Cell} {L : List Cell} (h : c.w = 1) (h' : d.w = 2) : W3 (c :: d :: L) ↔ W3 L := by
  constructor
  · intro k i x hx
    rcases k (i + 2) x hx with h1 | ⟨h1, d, h2, h3⟩ | ⟨h1, j, e, h2, h3, h4⟩
    · exact .inl h1
    · exact .inr (.inl ⟨h1, d, h2, h3⟩)
    · obtain rfl : j = i + 1 := by omega
      cases i with
      | zero => simp at h3; subst h3; omega
      | succ i => exact .inr (.inr ⟨h1, i, e, rfl, by simpa using h3, h4⟩)
  · intro k i x hx
    match i, hx with
    | 0, hx => simp at hx; subst hx; exact .inr (.inl ⟨h, d, rfl, h'⟩)
    | 1, hx => simp at hx; subst hx; exact .inr (.inr ⟨h', 0, c, rfl, rfl, h⟩)
    | i + 2, hx =>
      rcases k i x (by simpa using hx) with h1 | ⟨h1, d, h2, h3⟩ | ⟨h1, j, d, h2, h3, h4⟩
      · exact .inl h1
      · exact .inr (.inl ⟨h1, d, by simpa using h2, h3⟩)
      · exact .inr (.inr ⟨h1, j + 2, d, by omega, by simpa using h3, h4⟩)
theorem W3_head {c : Cell} {L : List Cell} (k : W3 (c :: L)) : c.w = 0 ∨ (c.w = 1 ∧ ∃ d L', L = d :: L' ∧ d.w = 2) := by
  rcases k 0 c rfl with h1 | ⟨h1, d, h2, h3⟩ | ⟨h1, j, d, h2, h3, h4⟩
  · exact .inl h1
  · cases L with
    | nil => simp at h2
    | cons e L => simp at h2; subst h2; exact .inr ⟨h1, _, _, rfl, h3⟩
  · omega
theorem wholeB_iff : ∀ L : List Cell, wholeB L = true ↔ W3 L
  | [] => by simp [wholeB, W3]
  | [c] => by
    show (c.w == 0) = true ↔ _
    rw [beq_iff_eq]
    constructor
    · intro h; exact (W3_0 h).2 (by simp [W3])
    · intro k
      rcases W3_head k with h | ⟨_, d, L', h, _⟩
      · exact h
      · cases h
  | c :: d :: L => by
    unfold wholeB
    by_cases h : c.w = 0
    · rw [if_pos h, wholeB_iff (d :: L), W3_0 h]
    · rw [if_neg h]
      simp only [Bool.and_eq_true, beq_iff_eq]
      constructor
      · rintro ⟨⟨h1, h2⟩, h3⟩
        exact (W3_12 h1 h2).2 ((wholeB_iff L).1 h3)
      · intro k
        rcases W3_head k with h1 | ⟨h1, e, L', h2, h3⟩
        · exact absurd h1 h
        · cases h2
          exact ⟨⟨h1, h3⟩, (wholeB_iff L).2 ((W3_12 h1 h3).1 k)⟩

theorem W3_append {A B : List Cell} (hA : W3 A) (hB : W3 B) : W3 (A ++ B) := by
  intro i c hc
  by_cases hi : i < A.length
  · rw [List.getElem?_append_left hi] at hc
    rcases hA i c hc with h1 | ⟨h1, d, h2, h3⟩ | ⟨h1, j, d, h2, h3, h4⟩
    · exact .inl h1
    · exact .inr (.inl ⟨h1, d, by rw [List.getElem?_append_left (List.getElem?_eq_some_iff.1 h2).1]; exact h2, h3⟩)
    · exact .inr (.inr ⟨h1, j, d, h2, by rw [List.getElem?_append_left (List.getElem?_eq_some_iff.1 h3).1]; exact h3, h4⟩)
  · rw [List.getElem?_append_right (by omega)] at hc
    rcases hB _ c hc with h1 | ⟨h1, d, h2, h3⟩ | ⟨h1, j, d, h2, h3, h4⟩
    · exact .inl h1
    · exact .inr (.inl ⟨h1, d, by rw [List.getElem?_append_right (by omega), show i + 1 - A.length = i - A.length + 1 by omega]; exact h2, h3⟩)
    · exact .inr (.inr ⟨h1, A.length + j, d, by omega, by rw [List.getElem?_append_right (by omega), show A.length + j - A.length = j by omega]; exact h3, h4⟩)
theorem W3_blanks (n : Nat) (a : Attr) : W3 (List.replicate n (blankC a)) := by
  intro i c hc
  rw [List.getElem?_replicate] at hc
  split at hc
  · cases hc; exact .inl rfl
  · cases hc

/-- No character stands on both sides of a column. -/
def Cut (L : List Cell) (x : Nat) : Prop := ∀ c : Cell, L[x]? = some c → c.w ≠ 2
theorem W3_take {L : List Cell} {x : Nat} (h : W3 L) (hc : Cut L x) : W3 (L.take x) := by
  intro i c hi
  rw [List.getElem?_take] at hi
  split at hi
  · rename_i hx
    rcases h i c hi with h1 | ⟨h1, d, h2, h3⟩ | ⟨h1, j, d, h2, h3, h4⟩
    · exact .inl h1
    · have : i + 1 ≠ x := by rintro rfl; exact hc d h2 h3
      exact .inr (.inl ⟨h1, d, by rw [List.getElem?_take_of_lt (by omega)]; exact h2, h3⟩)
    · exact .inr (.inr ⟨h1, j, d, h2, by rw [List.getElem?_take_of_lt (by omega)]; exact h3, h4⟩)
  · cases hi
theorem W3_drop {L : List Cell} {x : Nat} (h : W3 L) (hc : Cut L x) : W3 (L.drop x) := by
  intro i c hi
  rw [List.getElem?_drop] at hi
  rcases h _ c hi with h1 | ⟨h1, d, h2, h3⟩ | ⟨h1, j, d, h2, h3, h4⟩
  · exact .inl h1
  · exact .inr (.inl ⟨h1, d, by rw [List.getElem?_drop, ← Nat.add_assoc]; exact h2, h3⟩)
  · cases i with
    | zero => exact absurd h1 (hc c hi)
    | succ i =>
      obtain rfl : j = x + i := by omega
      exact .inr (.inr ⟨h1, i, d, rfl, by rw [List.getElem?_drop]; exact h3, h4⟩)
theorem partL_cut {L : List Cell} {x : Int} (hx : 0 ≤ x) (h : W3 L) : Cut (partL L x) x.toNat := by
  intro c hc
  rw [partL_get] at hc
  split at hc
  · rename_i hp
    rw [Option.map_eq_some_iff] at hc
    obtain ⟨d, _, rfl⟩ := hc
    simp [blankC]
  · rename_i hp
    intro h2
    have hlt := (List.getElem?_eq_some_iff.1 hc).1
    rcases h _ c hc with h1 | ⟨h1, _⟩ | ⟨h1, j, d, h3, _⟩
    · omega
    · omega
    · exact hp ⟨by omega, by omega, by rw [List.getD_eq_getElem?_getD, hc]; exact h2, .inl rfl⟩
theorem partL_keep {L : List Cell} {x : Int} {y : Nat} (h : Cut L y) : Cut (partL L x) y := by
  intro c hc
  rw [partL_get] at hc
  split at hc
  · rw [Option.map_eq_some_iff] at hc
    obtain ⟨d, _, rfl⟩ := hc
    simp [blankC]
  · exact h c hc
theorem partL_whole {L : List Cell} {x : Int} (h : W3 L) : W3 (partL L x) := by
  by_cases hp : 0 < x ∧ x < L.length ∧ (L.getD x.toNat cell0).w = 2
  · obtain ⟨h0, h1, h2⟩ := hp
    have hx : L[x.toNat]? = some (L.getD x.toNat cell0) := getD_get? (by omega)
    have key : ∀ i c, (partL L x)[i]? = some c → (i = x.toNat ∨ i = (x - 1).toNat) → c.w = 0 := by
      intro i c hc hi
      rw [partL_get, if_pos ⟨h0, h1, h2, hi⟩, Option.map_eq_some_iff] at hc
      obtain ⟨d, _, rfl⟩ := hc; rfl
    have old : ∀ i, ¬ (i = x.toNat ∨ i = (x - 1).toNat) → (partL L x)[i]? = L[i]? := by
      intro i hi
      rw [partL_get, if_neg (fun hh => hi hh.2.2.2)]
    have hw1 : (L.getD (x - 1).toNat cell0).w = 1 := by
      rcases h _ _ hx with g | ⟨g, _⟩ | ⟨g, j, d, g1, g2, g3⟩
      · omega
      · omega
      · have : j = (x - 1).toNat := by omega
        subst this
        rw [List.getD_eq_getElem?_getD, g2]; exact g3
    intro i c hc
    by_cases hi : i = x.toNat ∨ i = (x - 1).toNat
    · exact .inl (key i c hc hi)
    · rw [old i hi] at hc
      rcases h i c hc with g | ⟨g, d, g1, g2⟩ | ⟨g, j, d, g1, g2, g3⟩
      · exact .inl g
      · refine .inr (.inl ⟨g, d, ?_, g2⟩)
        rw [old]
        · exact g1
        · rintro (e | e)
          · omega
          · rw [e] at g1
            rw [List.getD_eq_getElem?_getD, g1] at hw1
            have : d.w = 1 := hw1
            omega
      · refine .inr (.inr ⟨g, j, d, g1, ?_, g3⟩)
        rw [old]
        · exact g2
        · rintro (e | e)
          · rw [e] at g2
            rw [hx] at g2
            cases g2
            omega
          · omega
  · unfold partL
    rw [if_neg hp]; exact h

theorem insertL_whole {L : List Cell} {x n : Int} {a : Attr} (h : W3 L) : W3 (insertL L x n a) := by
  unfold insertL
  split
  · exact h
  · rename_i hk
    have hr := roomL_spec L.length x n
    have c1 := partL_keep (x := L.length - roomL L.length x n) (partL_cut (x := x) (by omega) h)
    have w1 := partL_whole (x := L.length - roomL L.length x n) (partL_whole (x := x) h)
    have c2 := partL_cut (x := L.length - roomL L.length x n) (by omega) (partL_whole (x := x) h)
    simp only
    refine W3_append (W3_append (W3_take w1 c1) (W3_blanks _ _)) (W3_take (W3_drop w1 c1) ?_)
    intro c hc
    rw [List.getElem?_drop] at hc
    exact c2 c (by rw [← hc]; congr 1; omega)
theorem deleteL_whole {L : List Cell} {x n : Int} {a : Attr} (h : W3 L) : W3 (deleteL L x n a) := by
  unfold deleteL
  split
  · exact h
  · rename_i hk
    have hr := roomL_spec L.length x n
    have c1 := partL_keep (x := x + roomL L.length x n) (partL_cut (x := x) (by omega) h)
    have w1 := partL_whole (x := x + roomL L.length x n) (partL_whole (x := x) h)
    have c2 := partL_cut (x := x + roomL L.length x n) (by omega) (partL_whole (x := x) h)
    rw [show (x + roomL L.length x n).toNat = x.toNat + (roomL L.length x n).toNat by omega] at c2
    simp only
    exact W3_append (W3_append (W3_take w1 c1) (W3_drop w1 c2)) (W3_blanks _ _)
theorem eraseL_whole {L : List Cell} {x n : Int} {a : Attr} (h : W3 L) : W3 (eraseL L x n a) := by
  unfold eraseL
  split
  · exact h
  · rename_i hk
    have hr := roomL_spec L.length x n
    have c1 := partL_keep (x := x + roomL L.length x n) (partL_cut (x := x) (by omega) h)
    have w1 := partL_whole (x := x + roomL L.length x n) (partL_whole (x := x) h)
    have c2 := partL_cut (x := x + roomL L.length x n) (by omega) (partL_whole (x := x) h)
    rw [show (x + roomL L.length x n).toNat = x.toNat + (roomL L.length x n).toNat by omega] at c2
    simp only
    exact W3_append (W3_append (W3_take w1 c1) (W3_blanks _ _)) (W3_drop w1 c2)
theorem resizeL_whole {L : List Cell} {n : Int} {a : Attr} (h : W3 L) : W3 (resizeL L n a) := by
  unfold resizeL
  split
  · exact h
  · split
    · exact W3_take (partL_whole h) (partL_cut (by omega) h)
    · exact W3_append h (W3_blanks _ _)
theorem resizeL_length (L : List Cell) (n : Int) (a : Attr) : (resizeL L n a).length = if 1 ≤ n ∧ n ≤ 400 then n.toNat else L.length := by
  unfold resizeL
  by_cases h1 : n < 1 ∨ 400 < n
  · rw [if_pos h1, if_neg (by omega)]
  · rw [if_neg h1, if_pos (show 1 ≤ n ∧ n ≤ 400 by omega)]
    by_cases h2 : n ≤ L.length
    · rw [if_pos h2, List.length_take, partL_length]; omega
    · rw [if_neg h2, List.length_append, List.length_replicate]; omega

end Go.Proofs.YtfmldkjidfigbaaDoor
