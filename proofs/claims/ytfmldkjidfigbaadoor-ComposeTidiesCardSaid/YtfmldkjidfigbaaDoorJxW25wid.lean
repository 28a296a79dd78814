/- How many columns a character has: the program's halving search and the document's list answer alike. -/
import Derived.Test.YtfmldkjidfigbaaDoorJxC25
import Derived.Test.YtfmldkjidfigbaaDoorJxW25plain
import Derived.Test.YtfmldkjidfigbaaDoorJxW9
set_option linter.unusedSimpArgs false
set_option linter.unusedVariables false
set_option maxHeartbeats 4000000
set_option maxRecDepth 100000
namespace Go.Proofs.YtfmldkjidfigbaaDoor
open Go Go.Jx

def encB (p : Int × Int) : List SV := [.int .i32 p.1, .int .i32 p.2]
def encT (p : Int × Int × Int) : List SV := [.int .i32 p.1, .int .i32 p.2.1, .int .i32 p.2.2]
def hits (r : Int) (k : Nat) : Prop := (bnd.getD k (0, 0)).1 ≤ r ∧ r ≤ (bnd.getD k (0, 0)).2
def valB (k : Nat) : Int := if (33948543 : Nat).testBit k then 0 else 2

theorem bnd_sorted : ∀ i, i < 26 → ∀ j, j < 26 → i < j → (bnd.getD i (0, 0)).2 < (bnd.getD j (0, 0)).1 := by decide
theorem bnd_own : ∀ i, i < 26 → (bnd.getD i (0, 0)).1 ≤ (bnd.getD i (0, 0)).2 := by decide
theorem bnd_ref : ∀ k, k < 26 → ((bnd.getD k (0, 0)).1, (bnd.getD k (0, 0)).2, valB k) ∈ refTab := by decide
theorem ref_bnd : ∀ t ∈ refTab, ∃ k, k < 26 ∧ t = ((bnd.getD k (0, 0)).1, (bnd.getD k (0, 0)).2, valB k) := by decide

theorem ofL_hit {r : Int} {k : Nat} (hk : k < 26) (h : hits r k) : ofL r = valB k := by
  unfold ofL scanT
  cases hf : refTab.find? (inT r) with
  | none =>
    have := List.find?_eq_none.1 hf _ (bnd_ref k hk)
    exact absurd (by simpa [inT, hits] using h) this
  | some t =>
    have h1 := List.find?_some hf
    obtain ⟨j, hj, rfl⟩ := ref_bnd t (List.mem_of_find?_eq_some hf)
    simp only [inT, decide_eq_true_eq] at h1
    have : j = k := by
      rcases Nat.lt_trichotomy j k with hlt | he | hlt
      · have := bnd_sorted j hj k hk hlt; unfold hits at h; omega
      · exact he
      · have := bnd_sorted k hk j hj hlt; unfold hits at h; omega
    rw [this]

theorem ofL_miss {r : Int} (h : ∀ k, k < 26 → ¬ hits r k) : ofL r = 1 := by
  unfold ofL scanT
  cases hf : refTab.find? (inT r) with
  | none => rfl
  | some t =>
    have h1 := List.find?_some hf
    obtain ⟨j, hj, rfl⟩ := ref_bnd t (List.mem_of_find?_eq_some hf)
    simp only [inT, decide_eq_true_eq] at h1
    exact absurd h1 (h j hj)

/-- Nothing outside of low to high is hit. -/
def apart (r low high : Int) : Prop := ∀ k : Nat, k < 26 → ((k : Int) < low ∨ high ≤ k) → ¬ hits r k

theorem apart_high {r low high mid : Int} (h : apart r low high) (h0 : 0 ≤ mid) (h1 : mid < 26) (hr : r < (bnd.getD mid.toNat (0, 0)).1) : apart r low mid := by
  intro k hk hh
  rcases hh with hh | hh
  · exact h k hk (.inl hh)
  · intro hx
    unfold hits at hx
    by_cases he : k = mid.toNat
    · rw [he] at hx; omega
    · have := bnd_sorted mid.toNat (by omega) k hk (by omega)
      have := bnd_own mid.toNat (by omega)
      omega
theorem apart_low {r low high mid : Int} (h : apart r low high) (h0 : 0 ≤ mid) (h1 : mid < 26) (hr : (bnd.getD mid.toNat (0, 0)).2 < r) : apart r (mid + 1) high := by
  intro k hk hh
  rcases hh with hh | hh
  · intro hx
    unfold hits at hx
    by_cases he : k = mid.toNat
    · rw [he] at hx; omega
    · have := bnd_sorted k hk mid.toNat (by omega) (by omega)
      have := bnd_own mid.toNat (by omega)
      omega
  · exact h k hk (.inr hh)

theorem bnd_get {i : Int} (h0 : 0 ≤ i) (hi : i < 26) {f : Nat} {s : SV} (hs : (encB (bnd.getD i.toNat (0, 0)))[f]? = some s) : (bnd.flatMap encB)[0 + i.toNat * 2 + f * 1]? = some s := by
  have hl : i.toNat < bnd.length := by show i.toNat < 26; omega
  rw [Nat.zero_add, Nat.mul_one, List.flatMap_def]
  refine getElem?_flatten (n := 2) (by intro c hc; obtain ⟨r, _, rfl⟩ := List.mem_map.1 hc; rfl) (c := encB (bnd.getD i.toNat (0, 0))) ?_ hs
  rw [List.getElem?_map, List.getElem?_eq_getElem hl, List.getD_eq_getElem?_getD, List.getElem?_eq_getElem hl]; rfl

/-- The variable 'bounds' is there. -/
def HasB (h : Heap) : Prop := ∃ t, h.get 0 = some (.cells t .ro (bnd.flatMap encB))

def IOf (r : Int) (h : Heap) : Nat → List AV → Heap → Prop := fun n e h' => ∃ (low high : Int), EnvIs 35 [(0, .sc (.int .i32 r)), (3, .sc (.int .i64 low)), (4, .sc (.int .i64 high))] e ∧ 0 ≤ low ∧ low ≤ 26 ∧ 0 ≤ high ∧ high ≤ 26 ∧ n = (high - low).toNat ∧ h' = h ∧ apart r low high

theorem tdiv2 {a : Int} (h : 0 ≤ a) : a.tdiv 2 = a / 2 := Int.tdiv_eq_ediv_of_nonneg h

theorem bit_ok : ∀ k, k < 26 → ((IntKind.i64.wrap (BitVec.ofInt 64 (Int.fdiv 33948543 (2 ^ (Min.min k 64))) &&& BitVec.ofInt 64 1).toNat == (1 : Int)) = (33948543 : Nat).testBit k) := by decide

theorem w22_0 (r : Int) (h : Heap) (hb : HasB h) : W DD (.call 22 [.sc (.int .i32 r)] h) (fun _ vs h' => ∃ v, vs = [v] ∧ v = .sc (.int .i64 (ofL r)) ∧ h' = h) := by
  obtain ⟨tb, hb⟩ := hb
  refine W_enter d22 ?_
  show W _ (.code m22_code [.sc (.int .i32 r), undefA, undefA, undefA, undefA, undefA, undefA, undefA, undefA, undefA, undefA, undefA, undefA, undefA, undefA, undefA, undefA, undefA, undefA, undefA, undefA, undefA, undefA, undefA, undefA, undefA, undefA, undefA, undefA, undefA, undefA, undefA, undefA, undefA, undefA] _) _
  unfold m22_code
  repeat' (first
    | refine W_fast rfl ?_
    | refine W_seq ?_
    | refine W_ops ?_
    | refine W_nil ?_
    | refine seqK_n ?_
    | refine seqK_r ?_
    | refine seqK_x ?_
    | refine blockK_r ?_
    | refine blockK_n ?_
    | refine blockK_e ?_
    | refine blockK_x rfl ?_
    | refine loopK_x ?_
    | refine loopK_r ?_
    | refine invK_x ?_
    | refine invK_r ?_
    | refine invK_n ?_
    | refine W_guard_on rfl ?_
    | refine W_guard_off rfl rfl (W_norm rfl ?_)
    | refine W_guard_u rfl (W_norm rfl ?_)
    | refine W_pick_t rfl rfl (W_norm rfl ?_)
    | refine W_pick_f rfl rfl (W_norm rfl ?_)
    | refine W_skip ?_
    | refine W_ret ?_
    | refine W_exit ?_
    | refine W_cond_t rfl ?_
    | refine W_cond_f rfl ?_
    | refine W_block ?_
    | refine W_draw rfl ?_
    | refine W_add rfl rfl (IntWalk.i64_in _ (by omega)) (W_norm rfl ?_)
    | refine W_add rfl rfl (IntWalk.i32_in _ (by omega)) (W_norm rfl ?_)
    | refine W_add rfl rfl (IntWalk.u8_in _ (by omega)) (W_norm rfl ?_)
    | refine W_sub rfl rfl (IntWalk.i64_in _ (by omega)) (W_norm rfl ?_)
    | refine W_sub rfl rfl (IntWalk.i32_in _ (by omega)) (W_norm rfl ?_)
    | refine W_sub rfl rfl (IntWalk.u8_in _ (by omega)) (W_norm rfl ?_)
    | refine W_mul rfl rfl (IntWalk.i64_in _ (by omega)) (W_norm rfl ?_)
    | refine W_mul rfl rfl (IntWalk.i32_in _ (by omega)) (W_norm rfl ?_)
    | refine W_mul rfl rfl (IntWalk.u8_in _ (by omega)) (W_norm rfl ?_)
    | refine W_convint rfl (IntWalk.i64_in _ (by omega)) (W_norm rfl ?_)
    | refine W_convint rfl (IntWalk.i32_in _ (by omega)) (W_norm rfl ?_)
    | refine W_convint rfl (IntWalk.u8_in _ (by omega)) (W_norm rfl ?_)
    | refine W_div rfl rfl (by omega) (W_norm rfl ?_)
    | refine W_mod rfl rfl (by omega) (W_norm rfl ?_)
    | refine W_indexSlice rfl rfl ⟨by omega, by omega⟩ (W_norm rfl ?_)
    | refine W_indexArr rfl rfl ⟨by omega, by omega⟩ (W_norm rfl ?_)
    | refine W_alloc (W_norm rfl ?_)
    | (refine W_guardT rfl (fun hc => ?_) (fun hc => ?_) <;> (try rw [hc]) <;> (try simp only [decide_eq_true_eq, decide_eq_false_iff_not, beq_iff_eq, beq_eq_false_iff_ne, bne_iff_ne, bne_eq_false_iff_eq, Bool.not_eq_true', Bool.not_eq_false', Int.not_lt, Int.not_le, ne_eq, reduceCtorEq, not_true_eq_false, not_false_eq_true, Decidable.not_not] at hc) <;> (try (exfalso; omega)) <;> (try refine W_norm rfl ?_))
    | (refine W_guardF rfl (fun hc => ?_) (fun hc => ?_) <;> (try rw [hc]) <;> (try simp only [decide_eq_true_eq, decide_eq_false_iff_not, beq_iff_eq, beq_eq_false_iff_ne, bne_iff_ne, bne_eq_false_iff_eq, Bool.not_eq_true', Bool.not_eq_false', Int.not_lt, Int.not_le, ne_eq, reduceCtorEq, not_true_eq_false, not_false_eq_true, Decidable.not_not] at hc) <;> (try (exfalso; omega)) <;> (try refine W_norm rfl ?_))
    | (refine W_cond rfl (fun hc => ?_) (fun hc => ?_) <;> (try rw [hc]) <;> (try simp only [decide_eq_true_eq, decide_eq_false_iff_not, beq_iff_eq, beq_eq_false_iff_ne, bne_iff_ne, bne_eq_false_iff_eq, Bool.not_eq_true', Bool.not_eq_false', Int.not_lt, Int.not_le, ne_eq, reduceCtorEq, not_true_eq_false, not_false_eq_true, Decidable.not_not] at hc) <;> (try (exfalso; omega)) <;> (try refine W_norm rfl ?_))
    | (refine W_pick rfl (fun hc => ?_) (fun hc => ?_) <;> (try rw [hc]) <;> (try simp only [decide_eq_true_eq, decide_eq_false_iff_not, beq_iff_eq, beq_eq_false_iff_ne, bne_iff_ne, bne_eq_false_iff_eq, Bool.not_eq_true', Bool.not_eq_false', Int.not_lt, Int.not_le, ne_eq, reduceCtorEq, not_true_eq_false, not_false_eq_true, Decidable.not_not] at hc) <;> (try (exfalso; omega)) <;> (try refine W_norm rfl ?_))
    | refine W_add rfl rfl rfl (W_norm rfl ?_)
    | refine W_sub rfl rfl rfl (W_norm rfl ?_)
    | refine W_mul rfl rfl rfl (W_norm rfl ?_)
    | (refine fnK_r rfl ?_; try dsimp only [gd_z, gd_s])
    | (refine fnK_n rfl ?_; try dsimp only [gd_z, gd_s]))
  refine W_loop (IOf r h) 26 ⟨0, 26, ⟨rfl, rfl, rfl, rfl, trivial⟩, by omega, by omega, by omega, by omega, by omega, rfl, by intro k hk hh; omega⟩ ?_
  rintro n _ _ ⟨low, high, he, h1, h2, h3, h4, rfl, rfl, ha⟩
  obtain ⟨us, rfl⟩ := he.list
  show W _ (.code _ [.sc (.int .i32 r), us 1, us 2, .sc (.int .i64 low), .sc (.int .i64 high), us 5, us 6, us 7, us 8, us 9, us 10, us 11, us 12, us 13, us 14, us 15, us 16, us 17, us 18, us 19, us 20, us 21, us 22, us 23, us 24, us 25, us 26, us 27, us 28, us 29, us 30, us 31, us 32, us 33, us 34] _) _
  unfold m22_l2
  repeat' (first
    | refine W_fast rfl ?_
    | refine W_load_sc rfl hb (bnd_get (by omega) (by omega) (f := 0) rfl) (W_norm rfl ?_)
    | refine W_load_sc rfl hb (bnd_get (by omega) (by omega) (f := 1) rfl) (W_norm rfl ?_)
    | refine W_shr rfl rfl (by omega) (W_norm rfl ?_)
    | refine W_and rfl rfl (W_norm rfl ?_)
    | refine W_seq ?_
    | refine W_ops ?_
    | refine W_nil ?_
    | refine seqK_n ?_
    | refine seqK_r ?_
    | refine seqK_x ?_
    | refine blockK_r ?_
    | refine blockK_n ?_
    | refine blockK_e ?_
    | refine blockK_x rfl ?_
    | refine loopK_x ?_
    | refine loopK_r ?_
    | refine invK_x ?_
    | refine invK_r ?_
    | refine invK_n ?_
    | refine W_guard_on rfl ?_
    | refine W_guard_off rfl rfl (W_norm rfl ?_)
    | refine W_guard_u rfl (W_norm rfl ?_)
    | refine W_pick_t rfl rfl (W_norm rfl ?_)
    | refine W_pick_f rfl rfl (W_norm rfl ?_)
    | refine W_skip ?_
    | refine W_ret ?_
    | refine W_exit ?_
    | refine W_cond_t rfl ?_
    | refine W_cond_f rfl ?_
    | refine W_block ?_
    | refine W_draw rfl ?_
    | refine W_add rfl rfl (IntWalk.i64_in _ (by omega)) (W_norm rfl ?_)
    | refine W_add rfl rfl (IntWalk.i32_in _ (by omega)) (W_norm rfl ?_)
    | refine W_add rfl rfl (IntWalk.u8_in _ (by omega)) (W_norm rfl ?_)
    | refine W_sub rfl rfl (IntWalk.i64_in _ (by omega)) (W_norm rfl ?_)
    | refine W_sub rfl rfl (IntWalk.i32_in _ (by omega)) (W_norm rfl ?_)
    | refine W_sub rfl rfl (IntWalk.u8_in _ (by omega)) (W_norm rfl ?_)
    | refine W_mul rfl rfl (IntWalk.i64_in _ (by omega)) (W_norm rfl ?_)
    | refine W_mul rfl rfl (IntWalk.i32_in _ (by omega)) (W_norm rfl ?_)
    | refine W_mul rfl rfl (IntWalk.u8_in _ (by omega)) (W_norm rfl ?_)
    | refine W_convint rfl (IntWalk.i64_in _ (by omega)) (W_norm rfl ?_)
    | refine W_convint rfl (IntWalk.i32_in _ (by omega)) (W_norm rfl ?_)
    | refine W_convint rfl (IntWalk.u8_in _ (by omega)) (W_norm rfl ?_)
    | refine W_div rfl rfl (by omega) (W_norm rfl ?_)
    | refine W_mod rfl rfl (by omega) (W_norm rfl ?_)
    | refine W_indexSlice rfl rfl ⟨by omega, by omega⟩ (W_norm rfl ?_)
    | refine W_indexArr rfl rfl ⟨by omega, by omega⟩ (W_norm rfl ?_)
    | refine W_alloc (W_norm rfl ?_)
    | (refine W_guardT rfl (fun hc => ?_) (fun hc => ?_) <;> (try rw [hc]) <;> (try simp only [decide_eq_true_eq, decide_eq_false_iff_not, beq_iff_eq, beq_eq_false_iff_ne, bne_iff_ne, bne_eq_false_iff_eq, Bool.not_eq_true', Bool.not_eq_false', Int.not_lt, Int.not_le, ne_eq, reduceCtorEq, not_true_eq_false, not_false_eq_true, Decidable.not_not] at hc) <;> (try (exfalso; omega)) <;> (try refine W_norm rfl ?_))
    | (refine W_guardF rfl (fun hc => ?_) (fun hc => ?_) <;> (try rw [hc]) <;> (try simp only [decide_eq_true_eq, decide_eq_false_iff_not, beq_iff_eq, beq_eq_false_iff_ne, bne_iff_ne, bne_eq_false_iff_eq, Bool.not_eq_true', Bool.not_eq_false', Int.not_lt, Int.not_le, ne_eq, reduceCtorEq, not_true_eq_false, not_false_eq_true, Decidable.not_not] at hc) <;> (try (exfalso; omega)) <;> (try refine W_norm rfl ?_))
    | (refine W_cond rfl (fun hc => ?_) (fun hc => ?_) <;> (try rw [hc]) <;> (try simp only [decide_eq_true_eq, decide_eq_false_iff_not, beq_iff_eq, beq_eq_false_iff_ne, bne_iff_ne, bne_eq_false_iff_eq, Bool.not_eq_true', Bool.not_eq_false', Int.not_lt, Int.not_le, ne_eq, reduceCtorEq, not_true_eq_false, not_false_eq_true, Decidable.not_not] at hc) <;> (try (exfalso; omega)) <;> (try refine W_norm rfl ?_))
    | (refine W_pick rfl (fun hc => ?_) (fun hc => ?_) <;> (try rw [hc]) <;> (try simp only [decide_eq_true_eq, decide_eq_false_iff_not, beq_iff_eq, beq_eq_false_iff_ne, bne_iff_ne, bne_eq_false_iff_eq, Bool.not_eq_true', Bool.not_eq_false', Int.not_lt, Int.not_le, ne_eq, reduceCtorEq, not_true_eq_false, not_false_eq_true, Decidable.not_not] at hc) <;> (try (exfalso; omega)) <;> (try refine W_norm rfl ?_))
    | refine W_add rfl rfl rfl (W_norm rfl ?_)
    | refine W_sub rfl rfl rfl (W_norm rfl ?_)
    | refine W_mul rfl rfl rfl (W_norm rfl ?_)
    | (refine fnK_r rfl ?_; try dsimp only [gd_z, gd_s])
    | (refine fnK_n rfl ?_; try dsimp only [gd_z, gd_s]))
  · exact ⟨_, by omega, low, (low + high) / 2, ⟨rfl, rfl, rfl, rfl, trivial⟩, by omega, by omega, by omega, by omega, rfl, rfl, apart_high ha (by omega) (by omega) hc⟩
  · exact ⟨_, by omega, (low + high) / 2 + 1, high, ⟨rfl, rfl, rfl, rfl, trivial⟩, by omega, by omega, by omega, by omega, rfl, rfl, apart_low ha (by omega) (by omega) hc⟩
  · refine ⟨_, rfl, ?_, rfl⟩
    have hk : ((low + high) / 2).toNat < 26 := by omega
    rw [ofL_hit hk ⟨by assumption, by assumption⟩]
    have hb2 := bit_ok _ hk
    unfold valB
    rw [← hb2]
    have : (IntKind.i64.wrap (BitVec.ofInt 64 (Int.fdiv 33948543 (2 ^ (Min.min ((low + high) / 2).toNat 64))) &&& BitVec.ofInt 64 1).toNat == (1 : Int)) = true := by rw [beq_iff_eq]; exact hc
    rw [this]; rfl
  · refine ⟨_, rfl, ?_, rfl⟩
    have hk : ((low + high) / 2).toNat < 26 := by omega
    rw [ofL_hit hk ⟨by assumption, by assumption⟩]
    have hb2 := bit_ok _ hk
    unfold valB
    rw [← hb2]
    have : (IntKind.i64.wrap (BitVec.ofInt 64 (Int.fdiv 33948543 (2 ^ (Min.min ((low + high) / 2).toNat 64))) &&& BitVec.ofInt 64 1).toNat == (1 : Int)) = false := by rw [beq_eq_false_iff_ne]; exact hc
    rw [this]; rfl
  · refine ⟨_, rfl, ?_, rfl⟩
    rw [ofL_miss (fun k hk => ha k hk (by omega))]

/-! ## the document's -/

theorem ref_get {i : Int} (h0 : 0 ≤ i) {t : Int × Int × Int} (ht : refTab[i.toNat]? = some t) {f : Nat} {s : SV} (hs : (encT t)[f]? = some s) : (refTab.flatMap encT)[0 + i.toNat * 3 + f * 1]? = some s := by
  rw [Nat.zero_add, Nat.mul_one, List.flatMap_def]
  exact getElem?_flatten (n := 3) (by intro c hc; obtain ⟨r, _, rfl⟩ := List.mem_map.1 hc; rfl) (by rw [List.getElem?_map, ht]; rfl) hs

theorem scan_step {r : Int} {i : Nat} {t : Int × Int × Int} (ht : refTab[i]? = some t) : scanT r (refTab.drop i) = if inT r t then t.2.2 else scanT r (refTab.drop (i + 1)) := by
  obtain ⟨hi, rfl⟩ := List.getElem?_eq_some_iff.1 ht
  rw [List.drop_eq_getElem_cons hi]
  unfold scanT
  rw [List.find?_cons]
  cases inT r (refTab[i]'hi) <;> rfl

theorem ref_vals : ∀ t ∈ refTab, 0 ≤ t.2.2 ∧ t.2.2 ≤ 2 := by decide

def hTab (h : Heap) : Heap := h.push (.cells 77 .own (refTab.flatMap encT))

def IRef (r : Int) (h : Heap) : Nat → List AV → Heap → Prop := fun n e h' => ∃ (i : Int), EnvIs 60 [(0, .sc (.int .i32 r)), (3, .sc (.slice h.n 0 26 26)), (4, .sc (.int .i64 i))] e ∧ 0 ≤ i ∧ i ≤ 26 ∧ n = (26 - i).toNat ∧ h' = hTab h ∧ scanT r (refTab.drop i.toNat) = ofL r

theorem w27_0 (r : Int) (h : Heap) : W DD (.call 27 [.sc (.int .i32 r)] h) (fun _ vs h' => ∃ v, vs = [v] ∧ v = .sc (.int .i64 (ofL r)) ∧ h' = hTab h) := by
  refine W_enter d27 ?_
  show W _ (.code m27_code [.sc (.int .i32 r), undefA, undefA, undefA, undefA, undefA, undefA, undefA, undefA, undefA, undefA, undefA, undefA, undefA, undefA, undefA, undefA, undefA, undefA, undefA, undefA, undefA, undefA, undefA, undefA, undefA, undefA, undefA, undefA, undefA, undefA, undefA, undefA, undefA, undefA, undefA, undefA, undefA, undefA, undefA, undefA, undefA, undefA, undefA, undefA, undefA, undefA, undefA, undefA, undefA, undefA, undefA, undefA, undefA, undefA, undefA, undefA, undefA, undefA, undefA] _) _
  unfold m27_code
  repeat' (first
    | refine W_fast rfl ?_
    | refine W_buildSlice (cs := refTab.flatMap encT) (by kernel_rfl) (W_norm rfl ?_)
    | refine W_seq ?_
    | refine W_ops ?_
    | refine W_nil ?_
    | refine seqK_n ?_
    | refine seqK_r ?_
    | refine seqK_x ?_
    | refine blockK_r ?_
    | refine blockK_n ?_
    | refine blockK_e ?_
    | refine blockK_x rfl ?_
    | refine loopK_x ?_
    | refine loopK_r ?_
    | refine invK_x ?_
    | refine invK_r ?_
    | refine invK_n ?_
    | refine W_guard_on rfl ?_
    | refine W_guard_off rfl rfl (W_norm rfl ?_)
    | refine W_guard_u rfl (W_norm rfl ?_)
    | refine W_pick_t rfl rfl (W_norm rfl ?_)
    | refine W_pick_f rfl rfl (W_norm rfl ?_)
    | refine W_skip ?_
    | refine W_ret ?_
    | refine W_exit ?_
    | refine W_cond_t rfl ?_
    | refine W_cond_f rfl ?_
    | refine W_block ?_
    | refine W_draw rfl ?_
    | refine W_add rfl rfl (IntWalk.i64_in _ (by omega)) (W_norm rfl ?_)
    | refine W_add rfl rfl (IntWalk.i32_in _ (by omega)) (W_norm rfl ?_)
    | refine W_add rfl rfl (IntWalk.u8_in _ (by omega)) (W_norm rfl ?_)
    | refine W_sub rfl rfl (IntWalk.i64_in _ (by omega)) (W_norm rfl ?_)
    | refine W_sub rfl rfl (IntWalk.i32_in _ (by omega)) (W_norm rfl ?_)
    | refine W_sub rfl rfl (IntWalk.u8_in _ (by omega)) (W_norm rfl ?_)
    | refine W_mul rfl rfl (IntWalk.i64_in _ (by omega)) (W_norm rfl ?_)
    | refine W_mul rfl rfl (IntWalk.i32_in _ (by omega)) (W_norm rfl ?_)
    | refine W_mul rfl rfl (IntWalk.u8_in _ (by omega)) (W_norm rfl ?_)
    | refine W_convint rfl (IntWalk.i64_in _ (by omega)) (W_norm rfl ?_)
    | refine W_convint rfl (IntWalk.i32_in _ (by omega)) (W_norm rfl ?_)
    | refine W_convint rfl (IntWalk.u8_in _ (by omega)) (W_norm rfl ?_)
    | refine W_div rfl rfl (by omega) (W_norm rfl ?_)
    | refine W_mod rfl rfl (by omega) (W_norm rfl ?_)
    | refine W_indexSlice rfl rfl ⟨by omega, by omega⟩ (W_norm rfl ?_)
    | refine W_indexArr rfl rfl ⟨by omega, by omega⟩ (W_norm rfl ?_)
    | refine W_alloc (W_norm rfl ?_)
    | (refine W_guardT rfl (fun hc => ?_) (fun hc => ?_) <;> (try rw [hc]) <;> (try simp only [decide_eq_true_eq, decide_eq_false_iff_not, beq_iff_eq, beq_eq_false_iff_ne, bne_iff_ne, bne_eq_false_iff_eq, Bool.not_eq_true', Bool.not_eq_false', Int.not_lt, Int.not_le, ne_eq, reduceCtorEq, not_true_eq_false, not_false_eq_true, Decidable.not_not] at hc) <;> (try (exfalso; omega)) <;> (try refine W_norm rfl ?_))
    | (refine W_guardF rfl (fun hc => ?_) (fun hc => ?_) <;> (try rw [hc]) <;> (try simp only [decide_eq_true_eq, decide_eq_false_iff_not, beq_iff_eq, beq_eq_false_iff_ne, bne_iff_ne, bne_eq_false_iff_eq, Bool.not_eq_true', Bool.not_eq_false', Int.not_lt, Int.not_le, ne_eq, reduceCtorEq, not_true_eq_false, not_false_eq_true, Decidable.not_not] at hc) <;> (try (exfalso; omega)) <;> (try refine W_norm rfl ?_))
    | (refine W_cond rfl (fun hc => ?_) (fun hc => ?_) <;> (try rw [hc]) <;> (try simp only [decide_eq_true_eq, decide_eq_false_iff_not, beq_iff_eq, beq_eq_false_iff_ne, bne_iff_ne, bne_eq_false_iff_eq, Bool.not_eq_true', Bool.not_eq_false', Int.not_lt, Int.not_le, ne_eq, reduceCtorEq, not_true_eq_false, not_false_eq_true, Decidable.not_not] at hc) <;> (try (exfalso; omega)) <;> (try refine W_norm rfl ?_))
    | (refine W_pick rfl (fun hc => ?_) (fun hc => ?_) <;> (try rw [hc]) <;> (try simp only [decide_eq_true_eq, decide_eq_false_iff_not, beq_iff_eq, beq_eq_false_iff_ne, bne_iff_ne, bne_eq_false_iff_eq, Bool.not_eq_true', Bool.not_eq_false', Int.not_lt, Int.not_le, ne_eq, reduceCtorEq, not_true_eq_false, not_false_eq_true, Decidable.not_not] at hc) <;> (try (exfalso; omega)) <;> (try refine W_norm rfl ?_))
    | refine W_add rfl rfl rfl (W_norm rfl ?_)
    | refine W_sub rfl rfl rfl (W_norm rfl ?_)
    | refine W_mul rfl rfl rfl (W_norm rfl ?_)
    | (refine fnK_r rfl ?_; try dsimp only [gd_z, gd_s])
    | (refine fnK_n rfl ?_; try dsimp only [gd_z, gd_s]))
  refine W_loop (IRef r h) 26 ⟨0, ⟨rfl, rfl, rfl, rfl, trivial⟩, by omega, by omega, by omega, rfl, rfl⟩ ?_
  rintro n _ _ ⟨i, he, h1, h2, rfl, rfl, hs⟩
  obtain ⟨us, rfl⟩ := he.list
  show W _ (.code _ [.sc (.int .i32 r), us 1, us 2, .sc (.slice h.n 0 26 26), .sc (.int .i64 i), us 5, us 6, us 7, us 8, us 9, us 10, us 11, us 12, us 13, us 14, us 15, us 16, us 17, us 18, us 19, us 20, us 21, us 22, us 23, us 24, us 25, us 26, us 27, us 28, us 29, us 30, us 31, us 32, us 33, us 34, us 35, us 36, us 37, us 38, us 39, us 40, us 41, us 42, us 43, us 44, us 45, us 46, us 47, us 48, us 49, us 50, us 51, us 52, us 53, us 54, us 55, us 56, us 57, us 58, us 59] _) _
  unfold m27_l3
  by_cases hlt : i < 26
  · have hk : i.toNat < refTab.length := by show i.toNat < 26; omega
    obtain ⟨t, ht⟩ : ∃ t, refTab[i.toNat]? = some t := ⟨_, List.getElem?_eq_getElem hk⟩
    have hrow := fun f s => @ref_get i h1 t ht f s
    have hval := ref_vals t (List.mem_of_getElem? ht)
    rw [scan_step ht] at hs
    repeat' (first
      | refine W_fast rfl ?_
      | refine W_lenSl (Sl.whole (enc := encT) (n := 3) (L := refTab) (fun _ => rfl) (Heap.get_push_new _ _)) rfl (W_norm rfl ?_)
      | refine W_load_sc rfl (Heap.get_push_new _ _) (hrow 0 _ rfl) (W_norm rfl ?_)
      | refine W_load_sc rfl (Heap.get_push_new _ _) (hrow 1 _ rfl) (W_norm rfl ?_)
      | refine W_load_sc rfl (Heap.get_push_new _ _) (hrow 2 _ rfl) (W_norm rfl ?_)
      | refine W_seq ?_
      | refine W_ops ?_
      | refine W_nil ?_
      | refine seqK_n ?_
      | refine seqK_r ?_
      | refine seqK_x ?_
      | refine blockK_r ?_
      | refine blockK_n ?_
      | refine blockK_e ?_
      | refine blockK_x rfl ?_
      | refine loopK_x ?_
      | refine loopK_r ?_
      | refine invK_x ?_
      | refine invK_r ?_
      | refine invK_n ?_
      | refine W_guard_on rfl ?_
      | refine W_guard_off rfl rfl (W_norm rfl ?_)
      | refine W_guard_u rfl (W_norm rfl ?_)
      | refine W_pick_t rfl rfl (W_norm rfl ?_)
      | refine W_pick_f rfl rfl (W_norm rfl ?_)
      | refine W_skip ?_
      | refine W_ret ?_
      | refine W_exit ?_
      | refine W_cond_t rfl ?_
      | refine W_cond_f rfl ?_
      | refine W_block ?_
      | refine W_draw rfl ?_
      | refine W_add rfl rfl (IntWalk.i64_in _ (by omega)) (W_norm rfl ?_)
      | refine W_add rfl rfl (IntWalk.i32_in _ (by omega)) (W_norm rfl ?_)
      | refine W_add rfl rfl (IntWalk.u8_in _ (by omega)) (W_norm rfl ?_)
      | refine W_sub rfl rfl (IntWalk.i64_in _ (by omega)) (W_norm rfl ?_)
      | refine W_sub rfl rfl (IntWalk.i32_in _ (by omega)) (W_norm rfl ?_)
      | refine W_sub rfl rfl (IntWalk.u8_in _ (by omega)) (W_norm rfl ?_)
      | refine W_mul rfl rfl (IntWalk.i64_in _ (by omega)) (W_norm rfl ?_)
      | refine W_mul rfl rfl (IntWalk.i32_in _ (by omega)) (W_norm rfl ?_)
      | refine W_mul rfl rfl (IntWalk.u8_in _ (by omega)) (W_norm rfl ?_)
      | refine W_convint rfl (IntWalk.i64_in _ (by omega)) (W_norm rfl ?_)
      | refine W_convint rfl (IntWalk.i32_in _ (by omega)) (W_norm rfl ?_)
      | refine W_convint rfl (IntWalk.u8_in _ (by omega)) (W_norm rfl ?_)
      | refine W_div rfl rfl (by omega) (W_norm rfl ?_)
      | refine W_mod rfl rfl (by omega) (W_norm rfl ?_)
      | refine W_indexSlice rfl rfl ⟨by omega, by omega⟩ (W_norm rfl ?_)
      | refine W_indexArr rfl rfl ⟨by omega, by omega⟩ (W_norm rfl ?_)
      | refine W_alloc (W_norm rfl ?_)
      | (refine W_guardT rfl (fun hc => ?_) (fun hc => ?_) <;> (try rw [hc]) <;> (try simp only [decide_eq_true_eq, decide_eq_false_iff_not, beq_iff_eq, beq_eq_false_iff_ne, bne_iff_ne, bne_eq_false_iff_eq, Bool.not_eq_true', Bool.not_eq_false', Int.not_lt, Int.not_le, ne_eq, reduceCtorEq, not_true_eq_false, not_false_eq_true, Decidable.not_not] at hc) <;> (try (exfalso; omega)) <;> (try refine W_norm rfl ?_))
      | (refine W_guardF rfl (fun hc => ?_) (fun hc => ?_) <;> (try rw [hc]) <;> (try simp only [decide_eq_true_eq, decide_eq_false_iff_not, beq_iff_eq, beq_eq_false_iff_ne, bne_iff_ne, bne_eq_false_iff_eq, Bool.not_eq_true', Bool.not_eq_false', Int.not_lt, Int.not_le, ne_eq, reduceCtorEq, not_true_eq_false, not_false_eq_true, Decidable.not_not] at hc) <;> (try (exfalso; omega)) <;> (try refine W_norm rfl ?_))
      | (refine W_cond rfl (fun hc => ?_) (fun hc => ?_) <;> (try rw [hc]) <;> (try simp only [decide_eq_true_eq, decide_eq_false_iff_not, beq_iff_eq, beq_eq_false_iff_ne, bne_iff_ne, bne_eq_false_iff_eq, Bool.not_eq_true', Bool.not_eq_false', Int.not_lt, Int.not_le, ne_eq, reduceCtorEq, not_true_eq_false, not_false_eq_true, Decidable.not_not] at hc) <;> (try (exfalso; omega)) <;> (try refine W_norm rfl ?_))
      | (refine W_pick rfl (fun hc => ?_) (fun hc => ?_) <;> (try rw [hc]) <;> (try simp only [decide_eq_true_eq, decide_eq_false_iff_not, beq_iff_eq, beq_eq_false_iff_ne, bne_iff_ne, bne_eq_false_iff_eq, Bool.not_eq_true', Bool.not_eq_false', Int.not_lt, Int.not_le, ne_eq, reduceCtorEq, not_true_eq_false, not_false_eq_true, Decidable.not_not] at hc) <;> (try (exfalso; omega)) <;> (try refine W_norm rfl ?_))
      | refine W_add rfl rfl rfl (W_norm rfl ?_)
      | refine W_sub rfl rfl rfl (W_norm rfl ?_)
      | refine W_mul rfl rfl rfl (W_norm rfl ?_)
      | (refine fnK_r rfl ?_; try dsimp only [gd_z, gd_s])
      | (refine fnK_n rfl ?_; try dsimp only [gd_z, gd_s]))
    · refine ⟨_, rfl, ?_, rfl⟩
      rw [← hs, if_pos (by simp [inT]; omega)]
    · rw [if_neg (by simp [inT]; omega)] at hs
      exact ⟨_, by omega, i + 1, ⟨rfl, rfl, rfl, rfl, trivial⟩, by omega, by omega, rfl, rfl, by rw [show (i + 1).toNat = i.toNat + 1 by omega]; exact hs⟩
    · rw [if_neg (by simp [inT]; omega)] at hs
      exact ⟨_, by omega, i + 1, ⟨rfl, rfl, rfl, rfl, trivial⟩, by omega, by omega, rfl, rfl, by rw [show (i + 1).toNat = i.toNat + 1 by omega]; exact hs⟩
  · have hlen : ((refTab.length : Nat) : Int) = 26 := rfl
    repeat' (first
      | refine W_fast rfl ?_
      | refine W_lenSl (Sl.whole (enc := encT) (n := 3) (L := refTab) (fun _ => rfl) (Heap.get_push_new _ _)) rfl (W_norm rfl ?_)
      | refine W_seq ?_
      | refine W_ops ?_
      | refine W_nil ?_
      | refine seqK_n ?_
      | refine seqK_r ?_
      | refine seqK_x ?_
      | refine blockK_r ?_
      | refine blockK_n ?_
      | refine blockK_e ?_
      | refine blockK_x rfl ?_
      | refine loopK_x ?_
      | refine loopK_r ?_
      | refine invK_x ?_
      | refine invK_r ?_
      | refine invK_n ?_
      | refine W_guard_on rfl ?_
      | refine W_guard_off rfl rfl (W_norm rfl ?_)
      | refine W_guard_u rfl (W_norm rfl ?_)
      | refine W_pick_t rfl rfl (W_norm rfl ?_)
      | refine W_pick_f rfl rfl (W_norm rfl ?_)
      | refine W_skip ?_
      | refine W_ret ?_
      | refine W_exit ?_
      | refine W_cond_t rfl ?_
      | refine W_cond_f rfl ?_
      | refine W_block ?_
      | refine W_draw rfl ?_
      | refine W_add rfl rfl (IntWalk.i64_in _ (by omega)) (W_norm rfl ?_)
      | refine W_add rfl rfl (IntWalk.i32_in _ (by omega)) (W_norm rfl ?_)
      | refine W_add rfl rfl (IntWalk.u8_in _ (by omega)) (W_norm rfl ?_)
      | refine W_sub rfl rfl (IntWalk.i64_in _ (by omega)) (W_norm rfl ?_)
      | refine W_sub rfl rfl (IntWalk.i32_in _ (by omega)) (W_norm rfl ?_)
      | refine W_sub rfl rfl (IntWalk.u8_in _ (by omega)) (W_norm rfl ?_)
      | refine W_mul rfl rfl (IntWalk.i64_in _ (by omega)) (W_norm rfl ?_)
      | refine W_mul rfl rfl (IntWalk.i32_in _ (by omega)) (W_norm rfl ?_)
      | refine W_mul rfl rfl (IntWalk.u8_in _ (by omega)) (W_norm rfl ?_)
      | refine W_convint rfl (IntWalk.i64_in _ (by omega)) (W_norm rfl ?_)
      | refine W_convint rfl (IntWalk.i32_in _ (by omega)) (W_norm rfl ?_)
      | refine W_convint rfl (IntWalk.u8_in _ (by omega)) (W_norm rfl ?_)
      | refine W_div rfl rfl (by omega) (W_norm rfl ?_)
      | refine W_mod rfl rfl (by omega) (W_norm rfl ?_)
      | refine W_indexSlice rfl rfl ⟨by omega, by omega⟩ (W_norm rfl ?_)
      | refine W_indexArr rfl rfl ⟨by omega, by omega⟩ (W_norm rfl ?_)
      | refine W_alloc (W_norm rfl ?_)
      | (refine W_guardT rfl (fun hc => ?_) (fun hc => ?_) <;> (try rw [hc]) <;> (try simp only [decide_eq_true_eq, decide_eq_false_iff_not, beq_iff_eq, beq_eq_false_iff_ne, bne_iff_ne, bne_eq_false_iff_eq, Bool.not_eq_true', Bool.not_eq_false', Int.not_lt, Int.not_le, ne_eq, reduceCtorEq, not_true_eq_false, not_false_eq_true, Decidable.not_not] at hc) <;> (try (exfalso; omega)) <;> (try refine W_norm rfl ?_))
      | (refine W_guardF rfl (fun hc => ?_) (fun hc => ?_) <;> (try rw [hc]) <;> (try simp only [decide_eq_true_eq, decide_eq_false_iff_not, beq_iff_eq, beq_eq_false_iff_ne, bne_iff_ne, bne_eq_false_iff_eq, Bool.not_eq_true', Bool.not_eq_false', Int.not_lt, Int.not_le, ne_eq, reduceCtorEq, not_true_eq_false, not_false_eq_true, Decidable.not_not] at hc) <;> (try (exfalso; omega)) <;> (try refine W_norm rfl ?_))
      | (refine W_cond rfl (fun hc => ?_) (fun hc => ?_) <;> (try rw [hc]) <;> (try simp only [decide_eq_true_eq, decide_eq_false_iff_not, beq_iff_eq, beq_eq_false_iff_ne, bne_iff_ne, bne_eq_false_iff_eq, Bool.not_eq_true', Bool.not_eq_false', Int.not_lt, Int.not_le, ne_eq, reduceCtorEq, not_true_eq_false, not_false_eq_true, Decidable.not_not] at hc) <;> (try (exfalso; omega)) <;> (try refine W_norm rfl ?_))
      | (refine W_pick rfl (fun hc => ?_) (fun hc => ?_) <;> (try rw [hc]) <;> (try simp only [decide_eq_true_eq, decide_eq_false_iff_not, beq_iff_eq, beq_eq_false_iff_ne, bne_iff_ne, bne_eq_false_iff_eq, Bool.not_eq_true', Bool.not_eq_false', Int.not_lt, Int.not_le, ne_eq, reduceCtorEq, not_true_eq_false, not_false_eq_true, Decidable.not_not] at hc) <;> (try (exfalso; omega)) <;> (try refine W_norm rfl ?_))
      | refine W_add rfl rfl rfl (W_norm rfl ?_)
      | refine W_sub rfl rfl rfl (W_norm rfl ?_)
      | refine W_mul rfl rfl rfl (W_norm rfl ?_)
      | (refine fnK_r rfl ?_; try dsimp only [gd_z, gd_s])
      | (refine fnK_n rfl ?_; try dsimp only [gd_z, gd_s]))
    refine ⟨_, rfl, ?_, rfl⟩
    rw [← hs, List.drop_of_length_le (by show 26 ≤ _; omega)]; rfl

theorem w22 (r : Int) (h : Heap) (hb : HasB h) : Wc DD 22 [.sc (.int .i32 r)] h fun v h' => v = i64 (ofL r) ∧ h' = h := w22_0 r h hb
theorem w27 (r : Int) (h : Heap) : Wc DD 27 [.sc (.int .i32 r)] h fun v h' => v = i64 (ofL r) ∧ Sep (Now h) [] h' :=
  (w27_0 r h).mono fun _ _ _ ⟨v, h1, h2, h3⟩ => ⟨v, h1, h2, by subst h3; exact (Sep.entry h).push _ |>.drop 0⟩
theorem HasB.now {h h' : Heap} {M : List Hp} (s : Sep (Now h) M h') (hb : HasB h) : HasB h' := by
  obtain ⟨t, hb⟩ := hb
  exact ⟨t, s.le _ _ hb⟩
end Go.Proofs.YtfmldkjidfigbaaDoor
