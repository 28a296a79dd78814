/- The document's Next of the states: its table, row by row; it is the program's. -/
import Derived.Test.YtdaeglcplpmlpaaJxW06
set_option linter.unusedSimpArgs false
set_option linter.unusedVariables false
set_option maxHeartbeats 4000000
set_option maxRecDepth 100000
namespace Go.Proofs.Ytdaeglcplpmlpaa
open Go Go.Jx

abbrev Row := Int × Int × Int × Int × Int
def tab : List Row := [(0, 0, 23, 2, 0), (0, 25, 25, 2, 0), (0, 28, 31, 2, 0), (0, 32, 126, 1, 0), (0, 127, 127, 0, 0), (0, 128, 255, 1, 0), (1, 0, 23, 2, 1), (1, 25, 25, 2, 1), (1, 28, 31, 2, 1), (1, 32, 47, 3, 2), (1, 48, 79, 5, 0), (1, 80, 80, 0, 7), (1, 81, 87, 5, 0), (1, 88, 88, 0, 13), (1, 89, 90, 5, 0), (1, 91, 91, 0, 3), (1, 92, 92, 5, 0), (1, 93, 93, 0, 12), (1, 94, 95, 0, 13), (1, 96, 126, 5, 0), (1, 127, 255, 0, 1), (2, 0, 23, 2, 2), (2, 25, 25, 2, 2), (2, 28, 31, 2, 2), (2, 32, 47, 3, 2), (2, 48, 126, 5, 0), (2, 127, 255, 0, 2), (3, 0, 23, 2, 3), (3, 25, 25, 2, 3), (3, 28, 31, 2, 3), (3, 32, 47, 3, 5), (3, 48, 59, 4, 4), (3, 60, 63, 3, 4), (3, 64, 126, 6, 0), (3, 127, 255, 0, 3), (4, 0, 23, 2, 4), (4, 25, 25, 2, 4), (4, 28, 31, 2, 4), (4, 32, 47, 3, 5), (4, 48, 59, 4, 4), (4, 60, 63, 0, 6), (4, 64, 126, 6, 0), (4, 127, 255, 0, 4), (5, 0, 23, 2, 5), (5, 25, 25, 2, 5), (5, 28, 31, 2, 5), (5, 32, 47, 3, 5), (5, 48, 63, 0, 6), (5, 64, 126, 6, 0), (5, 127, 255, 0, 5), (6, 0, 23, 2, 6), (6, 25, 25, 2, 6), (6, 28, 31, 2, 6), (6, 32, 63, 0, 6), (6, 64, 126, 0, 0), (6, 127, 255, 0, 6), (7, 0, 23, 0, 7), (7, 25, 25, 0, 7), (7, 28, 31, 0, 7), (7, 32, 47, 3, 9), (7, 48, 59, 4, 8), (7, 60, 63, 3, 8), (7, 64, 126, 7, 10), (7, 127, 255, 0, 7), (8, 0, 23, 0, 8), (8, 25, 25, 0, 8), (8, 28, 31, 0, 8), (8, 32, 47, 3, 9), (8, 48, 59, 4, 8), (8, 60, 63, 0, 11), (8, 64, 126, 7, 10), (8, 127, 255, 0, 8), (9, 0, 23, 0, 9), (9, 25, 25, 0, 9), (9, 28, 31, 0, 9), (9, 32, 47, 3, 9), (9, 48, 63, 0, 11), (9, 64, 126, 7, 10), (9, 127, 255, 0, 9), (10, 0, 23, 8, 10), (10, 25, 25, 8, 10), (10, 28, 126, 8, 10), (10, 127, 127, 0, 10), (10, 128, 255, 8, 10), (11, 0, 23, 0, 11), (11, 25, 25, 0, 11), (11, 28, 255, 0, 11), (12, 0, 6, 0, 12), (12, 7, 7, 0, 0), (12, 8, 23, 0, 12), (12, 25, 25, 0, 12), (12, 28, 31, 0, 12), (12, 32, 255, 8, 12), (13, 0, 23, 0, 13), (13, 25, 25, 0, 13), (13, 28, 255, 0, 13)]
def encRow (r : Row) : List SV := [.int .i64 r.1, .int .i64 r.2.1, .int .i64 r.2.2.1, .int .i64 r.2.2.2.1, .int .i64 r.2.2.2.2]
def hit (s c : Int) (r : Row) : Bool := decide (r.1 = s ∧ r.2.1 ≤ c ∧ c ≤ r.2.2.1)
def scanL (s c : Int) (l : List Row) : Int × Int := match l.find? (hit s c) with | some r => (r.2.2.2.1, r.2.2.2.2) | none => (0, 0)
def refL (s c : Int) : Int × Int := if c = 24 ∨ c = 26 then (2, 0) else if c = 27 then (0, 1) else scanL (if s < 0 ∨ 13 < s then 0 else s) c tab

def h21 (h : Heap) : Heap := h.push (.cells 36 .own (tab.flatMap encRow))
theorem run21 (h : Heap) : run DD 400 (.call 21 [] h) = some (.ret, [.sc (.slice h.n 0 96 96)], h21 h) := by kernel_rfl
theorem w21 (h : Heap) : W DD (.call 21 [] h) (fun _ vs h' => ∃ v, vs = [v] ∧ v = .sc (.slice h.n 0 96 96) ∧ h' = h21 h) := W_run (run21 h) ⟨_, rfl, rfl, rfl⟩

theorem scan_step {s c : Int} {i : Nat} (hi : i < 96) : scanL s c (tab.drop i) = if hit s c (tab[i]'hi) then ((tab[i]'hi).2.2.2.1, (tab[i]'hi).2.2.2.2) else scanL s c (tab.drop (i + 1)) := by
  rw [List.drop_eq_getElem_cons hi]
  unfold scanL
  rw [List.find?_cons]
  cases hit s c (tab[i]'hi) <;> rfl

def I13 (s c : Int) (h : Heap) : Nat → List AV → Heap → Prop := fun n e h' => ∃ (i : Int), EnvIs 66 [(0, .sc (.int .i64 s)), (1, .sc (.int .u8 c)), (6, .sc (.slice h.n 0 96 96)), (7, .sc (.int .i64 i))] e ∧ 0 ≤ i ∧ i ≤ 96 ∧ n = (96 - i).toNat ∧ h' = h21 h ∧ scanL s c (tab.drop i.toNat) = scanL s c tab

theorem w13 (s c : Int) (h : Heap) (hc : 0 ≤ c ∧ c < 256) : W DD (.call 13 [.sc (.int .i64 s), .sc (.int .u8 c)] h) (fun _ vs h' => ∃ v, vs = [v] ∧ v = pairA (refL s c) ∧ Sub h h') := by
  refine W_enter d13 ?_
  show W _ (.code m13_code [.sc (.int .i64 s), .sc (.int .u8 c), undefA, undefA, undefA, undefA, undefA, undefA, undefA, undefA, undefA, undefA, undefA, undefA, undefA, undefA, undefA, undefA, undefA, undefA, undefA, undefA, undefA, undefA, undefA, undefA, undefA, undefA, undefA, undefA, undefA, undefA, undefA, undefA, undefA, undefA, undefA, undefA, undefA, undefA, undefA, undefA, undefA, undefA, undefA, undefA, undefA, undefA, undefA, undefA, undefA, undefA, undefA, undefA, undefA, undefA, undefA, undefA, undefA, undefA, undefA, undefA, undefA, undefA, undefA, undefA] _) _
  unfold m13_code
  have loopW : ∀ (z : Int) (e : List AV) (Q : Ex → List AV → Heap → Prop), I13 z c h 96 e (h21 h) →
      (∀ n e', I13 z c h n e' (h21 h) → scanL z c tab = (0, 0) → Q (.exit 0) e' (h21 h)) →
      (∀ e', e'.getD 4 undefA = .sc (.int .i64 (scanL z c tab).1) → e'.getD 5 undefA = .sc (.int .i64 (scanL z c tab).2) → Q .ret e' (h21 h)) → W DD (.code (.loop m13_l9) e (h21 h)) Q := by
    intro z e Q he hq1 hq2
    refine W_loop (I13 z c h) _ he ?_
    rintro n _ _ ⟨i, he, hi1, hi2, rfl, rfl, hs⟩
    obtain ⟨us, rfl⟩ := he.list
    show W _ (.code _ [.sc (.int .i64 z), .sc (.int .u8 c), us 2, us 3, us 4, us 5, .sc (.slice h.n 0 96 96), .sc (.int .i64 i), us 8, us 9, us 10, us 11, us 12, us 13, us 14, us 15, us 16, us 17, us 18, us 19, us 20, us 21, us 22, us 23, us 24, us 25, us 26, us 27, us 28, us 29, us 30, us 31, us 32, us 33, us 34, us 35, us 36, us 37, us 38, us 39, us 40, us 41, us 42, us 43, us 44, us 45, us 46, us 47, us 48, us 49, us 50, us 51, us 52, us 53, us 54, us 55, us 56, us 57, us 58, us 59, us 60, us 61, us 62, us 63, us 64, us 65] _) _
    unfold m13_l9
    have hsl : Sl encRow 5 (h21 h) (.slice h.n 0 96 96) tab := Sl.whole (L := tab) (fun _ => rfl) (Heap.get_push_new _ _)
    have hlen : ((tab.length : Nat) : Int) = 96 := rfl
    by_cases hlt : i < 96
    · have hk : i.toNat < tab.length := by show i.toNat < 96; omega
      obtain ⟨r, hr⟩ : ∃ r, tab[i.toNat]? = some r := ⟨_, List.getElem?_eq_getElem hk⟩
      have hst : scanL z c (tab.drop i.toNat) = if hit z c r then (r.2.2.2.1, r.2.2.2.2) else scanL z c (tab.drop (i.toNat + 1)) := by
        rw [scan_step hk]
        rw [List.getElem?_eq_getElem hk] at hr
        cases hr; rfl
      rw [hst] at hs
      repeat' (first
        | refine W_fast rfl ?_
        | refine W_lenSl hsl rfl (W_norm rfl ?_)
        | (refine W_indexSl hsl rfl rfl (by omega) hr ?_; rintro id o hp; refine W_norm rfl ?_)
        | refine W_loadPt hp rfl rfl (W_norm rfl ?_)
        | refine W_seq ?_
        | refine W_ops ?_
        | refine W_nil ?_
        | refine seqK_n ?_
        | refine seqK_r ?_
        | refine seqK_x ?_
        | refine blockK_r ?_
        | refine blockK_n ?_
        | refine blockK_e ?_
        | refine blockK_x rfl ?_
        | refine loopK_x ?_
        | refine loopK_r ?_
        | refine invK_x ?_
        | refine invK_r ?_
        | refine invK_n ?_
        | refine W_guard_on rfl ?_
        | refine W_guard_off rfl rfl (W_norm rfl ?_)
        | refine W_guard_u rfl (W_norm rfl ?_)
        | refine W_pick_t rfl rfl (W_norm rfl ?_)
        | refine W_pick_f rfl rfl (W_norm rfl ?_)
        | refine W_skip ?_
        | refine W_ret ?_
        | refine W_exit ?_
        | refine W_cond_t rfl ?_
        | refine W_cond_f rfl ?_
        | refine W_block ?_
        | refine W_draw rfl ?_
        | refine W_add rfl rfl (IntWalk.i64_in _ (by omega)) (W_norm rfl ?_)
        | refine W_add rfl rfl (IntWalk.i32_in _ (by omega)) (W_norm rfl ?_)
        | refine W_add rfl rfl (IntWalk.u8_in _ (by omega)) (W_norm rfl ?_)
        | refine W_sub rfl rfl (IntWalk.i64_in _ (by omega)) (W_norm rfl ?_)
        | refine W_sub rfl rfl (IntWalk.i32_in _ (by omega)) (W_norm rfl ?_)
        | refine W_sub rfl rfl (IntWalk.u8_in _ (by omega)) (W_norm rfl ?_)
        | refine W_mul rfl rfl (IntWalk.i64_in _ (by omega)) (W_norm rfl ?_)
        | refine W_mul rfl rfl (IntWalk.i32_in _ (by omega)) (W_norm rfl ?_)
        | refine W_mul rfl rfl (IntWalk.u8_in _ (by omega)) (W_norm rfl ?_)
        | refine W_convint rfl (IntWalk.i64_in _ (by omega)) (W_norm rfl ?_)
        | refine W_convint rfl (IntWalk.i32_in _ (by omega)) (W_norm rfl ?_)
        | refine W_convint rfl (IntWalk.u8_in _ (by omega)) (W_norm rfl ?_)
        | refine W_div rfl rfl (by omega) (W_norm rfl ?_)
        | refine W_mod rfl rfl (by omega) (W_norm rfl ?_)
        | refine W_indexSlice rfl rfl ⟨by omega, by omega⟩ (W_norm rfl ?_)
        | refine W_indexArr rfl rfl ⟨by omega, by omega⟩ (W_norm rfl ?_)
        | refine W_alloc (W_norm rfl ?_)
        | (refine W_guardT rfl (fun hc => ?_) (fun hc => ?_) <;> (try rw [hc]) <;> (try simp only [decide_eq_true_eq, decide_eq_false_iff_not, beq_iff_eq, beq_eq_false_iff_ne, bne_iff_ne, bne_eq_false_iff_eq, Bool.not_eq_true', Bool.not_eq_false', Int.not_lt, Int.not_le, ne_eq, reduceCtorEq, not_true_eq_false, not_false_eq_true] at hc) <;> (try (exfalso; omega)) <;> (try refine W_norm rfl ?_))
        | (refine W_guardF rfl (fun hc => ?_) (fun hc => ?_) <;> (try rw [hc]) <;> (try simp only [decide_eq_true_eq, decide_eq_false_iff_not, beq_iff_eq, beq_eq_false_iff_ne, bne_iff_ne, bne_eq_false_iff_eq, Bool.not_eq_true', Bool.not_eq_false', Int.not_lt, Int.not_le, ne_eq, reduceCtorEq, not_true_eq_false, not_false_eq_true] at hc) <;> (try (exfalso; omega)) <;> (try refine W_norm rfl ?_))
        | (refine W_cond rfl (fun hc => ?_) (fun hc => ?_) <;> (try rw [hc]) <;> (try simp only [decide_eq_true_eq, decide_eq_false_iff_not, beq_iff_eq, beq_eq_false_iff_ne, bne_iff_ne, bne_eq_false_iff_eq, Bool.not_eq_true', Bool.not_eq_false', Int.not_lt, Int.not_le, ne_eq, reduceCtorEq, not_true_eq_false, not_false_eq_true] at hc) <;> (try (exfalso; omega)) <;> (try refine W_norm rfl ?_))
        | (refine W_pick rfl (fun hc => ?_) (fun hc => ?_) <;> (try rw [hc]) <;> (try simp only [decide_eq_true_eq, decide_eq_false_iff_not, beq_iff_eq, beq_eq_false_iff_ne, bne_iff_ne, bne_eq_false_iff_eq, Bool.not_eq_true', Bool.not_eq_false', Int.not_lt, Int.not_le, ne_eq, reduceCtorEq, not_true_eq_false, not_false_eq_true] at hc) <;> (try (exfalso; omega)) <;> (try refine W_norm rfl ?_))
        | refine W_add rfl rfl rfl (W_norm rfl ?_)
        | refine W_sub rfl rfl rfl (W_norm rfl ?_)
        | refine W_mul rfl rfl rfl (W_norm rfl ?_)
        | (refine fnK_r rfl ?_; dsimp only [gd_z, gd_s])
        | (refine fnK_n rfl ?_; dsimp only [gd_z, gd_s]))
      · rw [if_pos (by simp only [hit, decide_eq_true_eq]; omega)] at hs
        exact hq2 _ (by rw [← hs]; rfl) (by rw [← hs]; rfl)
      all_goals
        rw [if_neg (by simp only [hit, decide_eq_true_eq]; omega)] at hs
        exact ⟨_, by omega, i + 1, ⟨rfl, rfl, rfl, rfl, rfl, trivial⟩, by omega, by omega, rfl, rfl, by rw [show (i + 1).toNat = i.toNat + 1 by omega]; exact hs⟩
    · repeat' (first
        | refine W_fast rfl ?_
        | refine W_lenSl hsl rfl (W_norm rfl ?_)
        | refine W_seq ?_
        | refine W_ops ?_
        | refine W_nil ?_
        | refine seqK_n ?_
        | refine seqK_r ?_
        | refine seqK_x ?_
        | refine blockK_r ?_
        | refine blockK_n ?_
        | refine blockK_e ?_
        | refine blockK_x rfl ?_
        | refine loopK_x ?_
        | refine loopK_r ?_
        | refine invK_x ?_
        | refine invK_r ?_
        | refine invK_n ?_
        | refine W_guard_on rfl ?_
        | refine W_guard_off rfl rfl (W_norm rfl ?_)
        | refine W_guard_u rfl (W_norm rfl ?_)
        | refine W_pick_t rfl rfl (W_norm rfl ?_)
        | refine W_pick_f rfl rfl (W_norm rfl ?_)
        | refine W_skip ?_
        | refine W_ret ?_
        | refine W_exit ?_
        | refine W_cond_t rfl ?_
        | refine W_cond_f rfl ?_
        | refine W_block ?_
        | refine W_draw rfl ?_
        | refine W_add rfl rfl (IntWalk.i64_in _ (by omega)) (W_norm rfl ?_)
        | refine W_add rfl rfl (IntWalk.i32_in _ (by omega)) (W_norm rfl ?_)
        | refine W_add rfl rfl (IntWalk.u8_in _ (by omega)) (W_norm rfl ?_)
        | refine W_sub rfl rfl (IntWalk.i64_in _ (by omega)) (W_norm rfl ?_)
        | refine W_sub rfl rfl (IntWalk.i32_in _ (by omega)) (W_norm rfl ?_)
        | refine W_sub rfl rfl (IntWalk.u8_in _ (by omega)) (W_norm rfl ?_)
        | refine W_mul rfl rfl (IntWalk.i64_in _ (by omega)) (W_norm rfl ?_)
        | refine W_mul rfl rfl (IntWalk.i32_in _ (by omega)) (W_norm rfl ?_)
        | refine W_mul rfl rfl (IntWalk.u8_in _ (by omega)) (W_norm rfl ?_)
        | refine W_convint rfl (IntWalk.i64_in _ (by omega)) (W_norm rfl ?_)
        | refine W_convint rfl (IntWalk.i32_in _ (by omega)) (W_norm rfl ?_)
        | refine W_convint rfl (IntWalk.u8_in _ (by omega)) (W_norm rfl ?_)
        | refine W_div rfl rfl (by omega) (W_norm rfl ?_)
        | refine W_mod rfl rfl (by omega) (W_norm rfl ?_)
        | refine W_indexSlice rfl rfl ⟨by omega, by omega⟩ (W_norm rfl ?_)
        | refine W_indexArr rfl rfl ⟨by omega, by omega⟩ (W_norm rfl ?_)
        | refine W_alloc (W_norm rfl ?_)
        | (refine W_guardT rfl (fun hc => ?_) (fun hc => ?_) <;> (try rw [hc]) <;> (try simp only [decide_eq_true_eq, decide_eq_false_iff_not, beq_iff_eq, beq_eq_false_iff_ne, bne_iff_ne, bne_eq_false_iff_eq, Bool.not_eq_true', Bool.not_eq_false', Int.not_lt, Int.not_le, ne_eq, reduceCtorEq, not_true_eq_false, not_false_eq_true] at hc) <;> (try (exfalso; omega)) <;> (try refine W_norm rfl ?_))
        | (refine W_guardF rfl (fun hc => ?_) (fun hc => ?_) <;> (try rw [hc]) <;> (try simp only [decide_eq_true_eq, decide_eq_false_iff_not, beq_iff_eq, beq_eq_false_iff_ne, bne_iff_ne, bne_eq_false_iff_eq, Bool.not_eq_true', Bool.not_eq_false', Int.not_lt, Int.not_le, ne_eq, reduceCtorEq, not_true_eq_false, not_false_eq_true] at hc) <;> (try (exfalso; omega)) <;> (try refine W_norm rfl ?_))
        | (refine W_cond rfl (fun hc => ?_) (fun hc => ?_) <;> (try rw [hc]) <;> (try simp only [decide_eq_true_eq, decide_eq_false_iff_not, beq_iff_eq, beq_eq_false_iff_ne, bne_iff_ne, bne_eq_false_iff_eq, Bool.not_eq_true', Bool.not_eq_false', Int.not_lt, Int.not_le, ne_eq, reduceCtorEq, not_true_eq_false, not_false_eq_true] at hc) <;> (try (exfalso; omega)) <;> (try refine W_norm rfl ?_))
        | (refine W_pick rfl (fun hc => ?_) (fun hc => ?_) <;> (try rw [hc]) <;> (try simp only [decide_eq_true_eq, decide_eq_false_iff_not, beq_iff_eq, beq_eq_false_iff_ne, bne_iff_ne, bne_eq_false_iff_eq, Bool.not_eq_true', Bool.not_eq_false', Int.not_lt, Int.not_le, ne_eq, reduceCtorEq, not_true_eq_false, not_false_eq_true] at hc) <;> (try (exfalso; omega)) <;> (try refine W_norm rfl ?_))
        | refine W_add rfl rfl rfl (W_norm rfl ?_)
        | refine W_sub rfl rfl rfl (W_norm rfl ?_)
        | refine W_mul rfl rfl rfl (W_norm rfl ?_)
        | (refine fnK_r rfl ?_; dsimp only [gd_z, gd_s])
        | (refine fnK_n rfl ?_; dsimp only [gd_z, gd_s]))
      exact hq1 _ _ ⟨i, ⟨rfl, rfl, rfl, rfl, rfl, trivial⟩, by omega, by omega, rfl, rfl, hs⟩ (by rw [← hs, List.drop_of_length_le (by omega)]; rfl)
  have fin : ∀ (z : Int) (e : List AV), I13 z c h 96 e (h21 h) → refL s c = scanL z c tab →
      W DD (.code (.loop m13_l9) e (h21 h)) (blockK 0 (seqK DD (.seq (.ops m13_r14) .ret) (fnK m13 fun _ vs h' => ∃ v, vs = [v] ∧ v = pairA (refL s c) ∧ Sub h h'))) := by
    intro z e he hz
    refine loopW z e _ he ?_ ?_
    · rintro n _ ⟨i, he, hi1, hi2, rfl, -, hs⟩ h0
      refine blockK_e ?_
      refine seqK_n ?_
      obtain ⟨us, rfl⟩ := he.list
      show W _ (.code _ [.sc (.int .i64 z), .sc (.int .u8 c), us 2, us 3, us 4, us 5, .sc (.slice h.n 0 96 96), .sc (.int .i64 i), us 8, us 9, us 10, us 11, us 12, us 13, us 14, us 15, us 16, us 17, us 18, us 19, us 20, us 21, us 22, us 23, us 24, us 25, us 26, us 27, us 28, us 29, us 30, us 31, us 32, us 33, us 34, us 35, us 36, us 37, us 38, us 39, us 40, us 41, us 42, us 43, us 44, us 45, us 46, us 47, us 48, us 49, us 50, us 51, us 52, us 53, us 54, us 55, us 56, us 57, us 58, us 59, us 60, us 61, us 62, us 63, us 64, us 65] _) _
      repeat' (first
        | refine W_fast rfl ?_
        | refine W_seq ?_
        | refine W_ops ?_
        | refine W_nil ?_
        | refine seqK_n ?_
        | refine seqK_r ?_
        | refine seqK_x ?_
        | refine blockK_r ?_
        | refine blockK_n ?_
        | refine blockK_e ?_
        | refine blockK_x rfl ?_
        | refine loopK_x ?_
        | refine loopK_r ?_
        | refine invK_x ?_
        | refine invK_r ?_
        | refine invK_n ?_
        | refine W_guard_on rfl ?_
        | refine W_guard_off rfl rfl (W_norm rfl ?_)
        | refine W_guard_u rfl (W_norm rfl ?_)
        | refine W_pick_t rfl rfl (W_norm rfl ?_)
        | refine W_pick_f rfl rfl (W_norm rfl ?_)
        | refine W_skip ?_
        | refine W_ret ?_
        | refine W_exit ?_
        | refine W_cond_t rfl ?_
        | refine W_cond_f rfl ?_
        | refine W_block ?_
        | refine W_draw rfl ?_
        | refine W_add rfl rfl (IntWalk.i64_in _ (by omega)) (W_norm rfl ?_)
        | refine W_add rfl rfl (IntWalk.i32_in _ (by omega)) (W_norm rfl ?_)
        | refine W_add rfl rfl (IntWalk.u8_in _ (by omega)) (W_norm rfl ?_)
        | refine W_sub rfl rfl (IntWalk.i64_in _ (by omega)) (W_norm rfl ?_)
        | refine W_sub rfl rfl (IntWalk.i32_in _ (by omega)) (W_norm rfl ?_)
        | refine W_sub rfl rfl (IntWalk.u8_in _ (by omega)) (W_norm rfl ?_)
        | refine W_mul rfl rfl (IntWalk.i64_in _ (by omega)) (W_norm rfl ?_)
        | refine W_mul rfl rfl (IntWalk.i32_in _ (by omega)) (W_norm rfl ?_)
        | refine W_mul rfl rfl (IntWalk.u8_in _ (by omega)) (W_norm rfl ?_)
        | refine W_convint rfl (IntWalk.i64_in _ (by omega)) (W_norm rfl ?_)
        | refine W_convint rfl (IntWalk.i32_in _ (by omega)) (W_norm rfl ?_)
        | refine W_convint rfl (IntWalk.u8_in _ (by omega)) (W_norm rfl ?_)
        | refine W_div rfl rfl (by omega) (W_norm rfl ?_)
        | refine W_mod rfl rfl (by omega) (W_norm rfl ?_)
        | refine W_indexSlice rfl rfl ⟨by omega, by omega⟩ (W_norm rfl ?_)
        | refine W_indexArr rfl rfl ⟨by omega, by omega⟩ (W_norm rfl ?_)
        | refine W_alloc (W_norm rfl ?_)
        | (refine W_guardT rfl (fun hc => ?_) (fun hc => ?_) <;> (try rw [hc]) <;> (try simp only [decide_eq_true_eq, decide_eq_false_iff_not, beq_iff_eq, beq_eq_false_iff_ne, bne_iff_ne, bne_eq_false_iff_eq, Bool.not_eq_true', Bool.not_eq_false', Int.not_lt, Int.not_le, ne_eq, reduceCtorEq, not_true_eq_false, not_false_eq_true] at hc) <;> (try (exfalso; omega)) <;> (try refine W_norm rfl ?_))
        | (refine W_guardF rfl (fun hc => ?_) (fun hc => ?_) <;> (try rw [hc]) <;> (try simp only [decide_eq_true_eq, decide_eq_false_iff_not, beq_iff_eq, beq_eq_false_iff_ne, bne_iff_ne, bne_eq_false_iff_eq, Bool.not_eq_true', Bool.not_eq_false', Int.not_lt, Int.not_le, ne_eq, reduceCtorEq, not_true_eq_false, not_false_eq_true] at hc) <;> (try (exfalso; omega)) <;> (try refine W_norm rfl ?_))
        | (refine W_cond rfl (fun hc => ?_) (fun hc => ?_) <;> (try rw [hc]) <;> (try simp only [decide_eq_true_eq, decide_eq_false_iff_not, beq_iff_eq, beq_eq_false_iff_ne, bne_iff_ne, bne_eq_false_iff_eq, Bool.not_eq_true', Bool.not_eq_false', Int.not_lt, Int.not_le, ne_eq, reduceCtorEq, not_true_eq_false, not_false_eq_true] at hc) <;> (try (exfalso; omega)) <;> (try refine W_norm rfl ?_))
        | (refine W_pick rfl (fun hc => ?_) (fun hc => ?_) <;> (try rw [hc]) <;> (try simp only [decide_eq_true_eq, decide_eq_false_iff_not, beq_iff_eq, beq_eq_false_iff_ne, bne_iff_ne, bne_eq_false_iff_eq, Bool.not_eq_true', Bool.not_eq_false', Int.not_lt, Int.not_le, ne_eq, reduceCtorEq, not_true_eq_false, not_false_eq_true] at hc) <;> (try (exfalso; omega)) <;> (try refine W_norm rfl ?_))
        | refine W_add rfl rfl rfl (W_norm rfl ?_)
        | refine W_sub rfl rfl rfl (W_norm rfl ?_)
        | refine W_mul rfl rfl rfl (W_norm rfl ?_)
        | (refine fnK_r rfl ?_; dsimp only [gd_z, gd_s])
        | (refine fnK_n rfl ?_; dsimp only [gd_z, gd_s]))
      exact ⟨_, rfl, by rw [hz, h0]; rfl, Sub.push _ _⟩
    · intro e' h4 h5
      refine blockK_r ?_
      refine seqK_r ?_
      refine fnK_r (v := pairA (scanL z c tab)) ?_ ⟨_, rfl, by rw [hz], Sub.push _ _⟩
      show resultsA [.tmp 4, .tmp 5] e' _ = _
      simp only [resultsA, resultsAll, resultA, h4, h5, Option.map_some]
      rfl
  repeat' (first
    | refine W_fast rfl ?_
    | (refine W_callsN 21 rfl (w21 _) rfl ?_; rintro _ _ ⟨rfl, rfl⟩; refine W_norm rfl ?_)
    | refine W_seq ?_
    | refine W_ops ?_
    | refine W_nil ?_
    | refine seqK_n ?_
    | refine seqK_r ?_
    | refine seqK_x ?_
    | refine blockK_r ?_
    | refine blockK_n ?_
    | refine blockK_e ?_
    | refine blockK_x rfl ?_
    | refine loopK_x ?_
    | refine loopK_r ?_
    | refine invK_x ?_
    | refine invK_r ?_
    | refine invK_n ?_
    | refine W_guard_on rfl ?_
    | refine W_guard_off rfl rfl (W_norm rfl ?_)
    | refine W_guard_u rfl (W_norm rfl ?_)
    | refine W_pick_t rfl rfl (W_norm rfl ?_)
    | refine W_pick_f rfl rfl (W_norm rfl ?_)
    | refine W_skip ?_
    | refine W_ret ?_
    | refine W_exit ?_
    | refine W_cond_t rfl ?_
    | refine W_cond_f rfl ?_
    | refine W_block ?_
    | refine W_draw rfl ?_
    | refine W_add rfl rfl (IntWalk.i64_in _ (by omega)) (W_norm rfl ?_)
    | refine W_add rfl rfl (IntWalk.i32_in _ (by omega)) (W_norm rfl ?_)
    | refine W_add rfl rfl (IntWalk.u8_in _ (by omega)) (W_norm rfl ?_)
    | refine W_sub rfl rfl (IntWalk.i64_in _ (by omega)) (W_norm rfl ?_)
    | refine W_sub rfl rfl (IntWalk.i32_in _ (by omega)) (W_norm rfl ?_)
    | refine W_sub rfl rfl (IntWalk.u8_in _ (by omega)) (W_norm rfl ?_)
    | refine W_mul rfl rfl (IntWalk.i64_in _ (by omega)) (W_norm rfl ?_)
    | refine W_mul rfl rfl (IntWalk.i32_in _ (by omega)) (W_norm rfl ?_)
    | refine W_mul rfl rfl (IntWalk.u8_in _ (by omega)) (W_norm rfl ?_)
    | refine W_convint rfl (IntWalk.i64_in _ (by omega)) (W_norm rfl ?_)
    | refine W_convint rfl (IntWalk.i32_in _ (by omega)) (W_norm rfl ?_)
    | refine W_convint rfl (IntWalk.u8_in _ (by omega)) (W_norm rfl ?_)
    | refine W_div rfl rfl (by omega) (W_norm rfl ?_)
    | refine W_mod rfl rfl (by omega) (W_norm rfl ?_)
    | refine W_indexSlice rfl rfl ⟨by omega, by omega⟩ (W_norm rfl ?_)
    | refine W_indexArr rfl rfl ⟨by omega, by omega⟩ (W_norm rfl ?_)
    | refine W_alloc (W_norm rfl ?_)
    | (refine W_guardT rfl (fun hc => ?_) (fun hc => ?_) <;> (try rw [hc]) <;> (try simp only [decide_eq_true_eq, decide_eq_false_iff_not, beq_iff_eq, beq_eq_false_iff_ne, bne_iff_ne, bne_eq_false_iff_eq, Bool.not_eq_true', Bool.not_eq_false', Int.not_lt, Int.not_le, ne_eq, reduceCtorEq, not_true_eq_false, not_false_eq_true] at hc) <;> (try (exfalso; omega)) <;> (try refine W_norm rfl ?_))
    | (refine W_guardF rfl (fun hc => ?_) (fun hc => ?_) <;> (try rw [hc]) <;> (try simp only [decide_eq_true_eq, decide_eq_false_iff_not, beq_iff_eq, beq_eq_false_iff_ne, bne_iff_ne, bne_eq_false_iff_eq, Bool.not_eq_true', Bool.not_eq_false', Int.not_lt, Int.not_le, ne_eq, reduceCtorEq, not_true_eq_false, not_false_eq_true] at hc) <;> (try (exfalso; omega)) <;> (try refine W_norm rfl ?_))
    | (refine W_cond rfl (fun hc => ?_) (fun hc => ?_) <;> (try rw [hc]) <;> (try simp only [decide_eq_true_eq, decide_eq_false_iff_not, beq_iff_eq, beq_eq_false_iff_ne, bne_iff_ne, bne_eq_false_iff_eq, Bool.not_eq_true', Bool.not_eq_false', Int.not_lt, Int.not_le, ne_eq, reduceCtorEq, not_true_eq_false, not_false_eq_true] at hc) <;> (try (exfalso; omega)) <;> (try refine W_norm rfl ?_))
    | (refine W_pick rfl (fun hc => ?_) (fun hc => ?_) <;> (try rw [hc]) <;> (try simp only [decide_eq_true_eq, decide_eq_false_iff_not, beq_iff_eq, beq_eq_false_iff_ne, bne_iff_ne, bne_eq_false_iff_eq, Bool.not_eq_true', Bool.not_eq_false', Int.not_lt, Int.not_le, ne_eq, reduceCtorEq, not_true_eq_false, not_false_eq_true] at hc) <;> (try (exfalso; omega)) <;> (try refine W_norm rfl ?_))
    | refine W_add rfl rfl rfl (W_norm rfl ?_)
    | refine W_sub rfl rfl rfl (W_norm rfl ?_)
    | refine W_mul rfl rfl rfl (W_norm rfl ?_)
    | (refine fnK_r rfl ?_; dsimp only [gd_z, gd_s])
    | (refine fnK_n rfl ?_; dsimp only [gd_z, gd_s]))
  · exact ⟨_, rfl, by unfold refL; rw [if_pos (by omega)]; rfl, Sub.refl _⟩
  · exact ⟨_, rfl, by unfold refL; rw [if_neg (by omega), if_pos (by omega)]; rfl, Sub.refl _⟩
  · exact fin 0 _ ⟨0, ⟨rfl, rfl, rfl, rfl, rfl, trivial⟩, by omega, by omega, rfl, rfl, rfl⟩ (by unfold refL; rw [if_neg (by omega), if_neg (by omega), if_pos (by omega)])
  · exact fin s _ ⟨0, ⟨rfl, rfl, rfl, rfl, rfl, trivial⟩, by omega, by omega, rfl, rfl, rfl⟩ (by unfold refL; rw [if_neg (by omega), if_neg (by omega), if_neg (by omega)])
  · exact fin 0 _ ⟨0, ⟨rfl, rfl, rfl, rfl, rfl, trivial⟩, by omega, by omega, rfl, rfl, rfl⟩ (by unfold refL; rw [if_neg (by omega), if_neg (by omega), if_pos (by omega)])
  · exact ⟨_, rfl, by unfold refL; rw [if_pos (by omega)]; rfl, Sub.refl _⟩
end Go.Proofs.Ytdaeglcplpmlpaa
