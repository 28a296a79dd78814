import Derived.Test.YtggkbkbhegcbkaaDoorJxM18B
import Derived.Test.YtggkbkbhegcbkaaDoorJxM18A
/- Characters, plainly: what a text tells may be spelt; what is spelt tells just its characters. -/
set_option linter.unusedSimpArgs false
set_option linter.unusedVariables false
set_option maxHeartbeats 1000000
set_option maxRecDepth 100000
namespace Go.Proofs.YtggkbkbhegcbkaaDoor
open Go Go.Jx

/-- A character that may be spelt. -/
def okR (r : Int) : Prop := 0 ≤ r ∧ r ≤ 1114111 ∧ (r < 55296 ∨ 57343 < r)
theorem firstL_ok (d : Dec) {b : Int} (hb : 0 ≤ b ∧ b < 256) : ∀ r ∈ (firstL d b).2, okR r := by
  intro r hr
  unfold firstL at hr
  split at hr
  · simp at hr; subst hr; unfold okR; omega
  split at hr
  · rename_i h1 h2
    simp only [List.mem_singleton] at hr
    subst hr
    have : (beginsL b).2.2.2 = b ∧ b < 128 := by
      unfold beginsL at h1 h2 ⊢
      by_cases h : b < 128
      · rw [if_pos h]; exact ⟨rfl, h⟩
      · rw [if_neg h] at h1 h2
        exfalso
        revert h1 h2
        repeat' split
        all_goals simp
    unfold okR; omega
  · simp at hr
theorem byteL_ok {d : Dec} {s : List Int} {b : Int} (h : Same d s) (hb : 0 ≤ b ∧ b < 256) : ∀ r ∈ (byteL d b).2, okR r := by
  intro r hr
  have hf0 := firstL_ok dec0 hb
  have hfd := firstL_ok d hb
  unfold byteL at hr
  split at hr
  · rename_i hin
    split at hr
    · rename_i hone
      simp only [List.mem_singleton] at hr
      subst hr
      rcases h with ⟨rfl, rfl⟩ | ⟨b0, rfl, h1, h2, rfl⟩ | ⟨b0, b1, rfl, h1, h2, h3, h4, rfl⟩ | ⟨b0, b1, b2, rfl, h1, h2, h3, h4, h5, h6, rfl⟩
      · simp [dec0] at hin
      all_goals
        rcases range6 (b := b0) (by omega) with ⟨h, e⟩ | ⟨h, e⟩ | ⟨h, e⟩ | ⟨h, h', h'', e⟩ | ⟨h, e⟩ | ⟨h, e⟩ | ⟨h, h', e⟩ <;> rw [e] at hone hin ⊢ <;> (try rw [e] at h3 h4) <;> simp only at hone hin ⊢ <;> (try simp only at h3 h4) <;> unfold okR <;> omega
    · simp at hr
  split at hr
  · rcases List.mem_cons.1 hr with rfl | hr
    · unfold okR; omega
    · exact hf0 r hr
  · exact hfd r hr
theorem runP_ok : ∀ (l : List UInt8) (d : Dec) (s : List Int), Same d s → ∀ r ∈ (runP d l).2, okR r
  | [], d, s, h, r, hr => by simp [runP] at hr
  | b :: l, d, s, h, r, hr => by
    have hb : 0 ≤ (b.toNat : Int) ∧ (b.toNat : Int) < 256 := ⟨by omega, by have := b.toNat_lt; omega⟩
    simp only [runP, List.mem_append] at hr
    rcases hr with hr | hr
    · exact byteL_ok h hb r hr
    · exact runP_ok l _ _ (byte_same h hb).1 r hr
theorem allP_ok (s : List UInt8) : ∀ r ∈ allP s, okR r := by
  intro r hr
  unfold allP tailP at hr
  rcases List.mem_append.1 hr with hr | hr
  · exact runP_ok s dec0 [] same0 r hr
  · split at hr
    · simp at hr
    · simp at hr; subst hr; unfold okR; omega

/-- The bytes of a character. -/
theorem utf8_ints {r : Int} (h : okR r) : ints (utf8 r) = if r < 128 then [r] else if r < 2048 then [192 + r / 64, 128 + r % 64] else if r < 65536 then [224 + r / 4096, 128 + r / 64 % 64, 128 + r % 64] else [240 + r / 262144, 128 + r / 4096 % 64, 128 + r / 64 % 64, 128 + r % 64] := by
  obtain ⟨h1, h2, h3⟩ := h
  show intsB (utf8 r) = _
  split
  · exact utf8_1 (by omega)
  split
  · exact utf8_2 (by omega)
  split
  · exact utf8_3 (by omega) (by omega)
  · exact utf8_4 (by omega)
def runI : Dec → List Int → Dec × List Int
  | d, [] => (d, [])
  | d, b :: l => ((runI (byteL d b).1 l).1, (byteL d b).2 ++ (runI (byteL d b).1 l).2)
theorem runI_ints (l : List UInt8) (d : Dec) : runP d l = runI d (ints l) := by
  induction l generalizing d with
  | nil => rfl
  | cons b l ih => show ((runP _ l).1, _ ++ (runP _ l).2) = ((runI _ (ints l)).1, _ ++ (runI _ (ints l)).2); rw [ih]
theorem first_big {b : Int} (d : Dec) (h : 194 ≤ b ∧ b ≤ 244) : firstL d b = (⟨1, (beginsL b).1, (beginsL b).2.1, (beginsL b).2.2.1, (beginsL b).2.2.2⟩, []) := by
  unfold firstL
  rcases range6 h with ⟨h, e⟩ | ⟨h, e⟩ | ⟨h, e⟩ | ⟨h, h', h'', e⟩ | ⟨h, e⟩ | ⟨h, e⟩ | ⟨h, h', e⟩ <;> rw [e] <;> simp
theorem byte0 (b : Int) : byteL dec0 b = firstL dec0 b := by unfold byteL; rw [if_neg (by simp [dec0]), if_neg (by simp [dec0])]
theorem byteL_in {k l lo hi x b : Int} (h1 : 0 < k) (h2 : lo ≤ b ∧ b ≤ hi) (h3 : ¬ l - 1 = 0) : byteL ⟨k, l, lo, hi, x⟩ b = (⟨k + 1, l - 1, 128, 191, x * 64 + b % 64⟩, []) := by
  unfold byteL
  rw [if_pos ⟨h1, h2.1, h2.2⟩, if_neg h3]
theorem byteL_end {k l lo hi x b r : Int} (h1 : 0 < k) (h2 : lo ≤ b ∧ b ≤ hi) (h3 : l - 1 = 0) (hr : x * 64 + b % 64 = r) : byteL ⟨k, l, lo, hi, x⟩ b = (dec0, [r]) := by
  unfold byteL
  rw [if_pos ⟨h1, h2.1, h2.2⟩, if_pos h3]
  simp only [hr]
theorem run2 {a b r : Int} {d1 : Dec} (h1 : byteL dec0 a = (d1, [])) (h2 : byteL d1 b = (dec0, [r])) : runI dec0 [a, b] = (dec0, [r]) := by simp [runI, h1, h2]
theorem run3 {a b c r : Int} {d1 d2 : Dec} (h1 : byteL dec0 a = (d1, [])) (h2 : byteL d1 b = (d2, [])) (h3 : byteL d2 c = (dec0, [r])) : runI dec0 [a, b, c] = (dec0, [r]) := by simp [runI, h1, h2, h3]
theorem run4 {a b c d r : Int} {d1 d2 d3 : Dec} (h1 : byteL dec0 a = (d1, [])) (h2 : byteL d1 b = (d2, [])) (h3 : byteL d2 c = (d3, [])) (h4 : byteL d3 d = (dec0, [r])) : runI dec0 [a, b, c, d] = (dec0, [r]) := by simp [runI, h1, h2, h3, h4]
theorem run_char {r : Int} (h : okR r) : runI dec0 (ints (utf8 r)) = (dec0, [r]) := by
  rw [utf8_ints h]
  obtain ⟨h1, h2, h3⟩ := h
  by_cases c1 : r < 128
  · rw [if_pos c1]
    have e1 : beginsL r = (0, 0, 0, r) := by unfold beginsL; rw [if_pos c1]
    simp [runI, byte0, firstL, e1]
  rw [if_neg c1]
  by_cases c2 : r < 2048
  · rw [if_pos c2]
    have hb : 194 ≤ 192 + r / 64 ∧ 192 + r / 64 ≤ 244 := by omega
    have e0 := (byte0 (192 + r / 64)).trans (first_big dec0 hb)
    rcases range6 hb with ⟨h, e⟩ | ⟨h, e⟩ | ⟨h, e⟩ | ⟨h, h', h'', e⟩ | ⟨h, e⟩ | ⟨h, e⟩ | ⟨h, h', e⟩
    · rw [e] at e0
      exact run2 e0 (byteL_end (by omega) (by simp only; omega) (by omega) (by simp only; omega))
    all_goals (exfalso; omega)
  rw [if_neg c2]
  by_cases c3 : r < 65536
  · rw [if_pos c3]
    have hb : 194 ≤ 224 + r / 4096 ∧ 224 + r / 4096 ≤ 244 := by omega
    have e0 := (byte0 (224 + r / 4096)).trans (first_big dec0 hb)
    rcases range6 hb with ⟨h, e⟩ | ⟨h, e⟩ | ⟨h, e⟩ | ⟨h, h', h'', e⟩ | ⟨h, e⟩ | ⟨h, e⟩ | ⟨h, h', e⟩
    · exfalso; omega
    · rw [e] at e0
      exact run3 e0 (byteL_in (by omega) (by simp only; omega) (by simp only; omega)) (byteL_end (by omega) (by omega) (by simp only; omega) (by simp only; omega))
    · rw [e] at e0
      exact run3 e0 (byteL_in (by omega) (by simp only; omega) (by simp only; omega)) (byteL_end (by omega) (by omega) (by simp only; omega) (by simp only; omega))
    · rw [e] at e0
      exact run3 e0 (byteL_in (by omega) (by simp only; omega) (by simp only; omega)) (byteL_end (by omega) (by omega) (by simp only; omega) (by simp only; omega))
    all_goals (exfalso; omega)
  · rw [if_neg c3]
    have hb : 194 ≤ 240 + r / 262144 ∧ 240 + r / 262144 ≤ 244 := by omega
    have e0 := (byte0 (240 + r / 262144)).trans (first_big dec0 hb)
    rcases range6 hb with ⟨h, e⟩ | ⟨h, e⟩ | ⟨h, e⟩ | ⟨h, h', h'', e⟩ | ⟨h, e⟩ | ⟨h, e⟩ | ⟨h, h', e⟩
    · exfalso; omega
    · exfalso; omega
    · exfalso; omega
    · exfalso; omega
    all_goals
      rw [e] at e0
      exact run4 e0 (byteL_in (by omega) (by simp only; omega) (by simp only; omega)) (byteL_in (by omega) (by omega) (by simp only; omega)) (byteL_end (by omega) (by omega) (by simp only; omega) (by simp only; omega))
theorem run_chars : ∀ (l : List Int), (∀ r ∈ l, okR r) → runP dec0 (l.flatMap utf8) = (dec0, l)
  | [], _ => rfl
  | r :: l, h => by
    have h1 := run_chars l fun x hx => h x (by simp [hx])
    have h2 : runP dec0 (utf8 r) = (dec0, [r]) := by rw [runI_ints]; exact run_char (h r (by simp))
    rw [List.flatMap_cons, runP_append, h2, h1]
    rfl
/-- What is spelt tells its characters. -/
theorem allP_spelt {l : List Int} (h : ∀ r ∈ l, okR r) : allP (l.flatMap utf8) = l := by
  unfold allP
  rw [run_chars l h]
  simp [tailP, dec0]
theorem clean_chars (s : List UInt8) : (∀ r ∈ (ncl (allP s)).take 32, okR r ∧ ctl r = false) := by
  intro r hr
  have h1 := List.mem_of_mem_take hr
  unfold ncl at h1
  rw [List.mem_filter] at h1
  exact ⟨allP_ok s r h1.1, by simpa using h1.2⟩
theorem allP_clean (s : List UInt8) : allP (cleanL s) = (ncl (allP s)).take 32 := allP_spelt fun r hr => (clean_chars s r hr).1
/-- Clean is clean. -/
theorem clean_twice (s : List UInt8) : cleanL (cleanL s) = cleanL s := by
  have h1 := allP_clean s
  have h2 : ncl ((ncl (allP s)).take 32) = (ncl (allP s)).take 32 := by
    refine List.filter_eq_self.2 fun r hr => ?_
    rw [(clean_chars s r hr).2]; rfl
  show ((ncl (allP (cleanL s))).take 32).flatMap utf8 = _
  rw [h1, h2, List.take_take]
  rfl
theorem clean_len (s : List UInt8) : (cleanL s).length ≤ 128 := by
  have key : ∀ l : List Int, (l.flatMap utf8).length ≤ 4 * l.length := by
    intro l
    induction l with
    | nil => simp
    | cons r l ih => rw [List.flatMap_cons, List.length_append, List.length_cons]; have := utf8_length r; omega
  have := key ((ncl (allP s)).take 32)
  rw [List.length_take] at this
  unfold cleanL
  omega
end Go.Proofs.YtggkbkbhegcbkaaDoor
/- The gate: the document's base64 and clean titles, walked; the law GateTexts. -/
set_option linter.unusedSimpArgs false
set_option linter.unusedVariables false
set_option maxHeartbeats 1000000
set_option maxRecDepth 100000
namespace Go.Proofs.YtggkbkbhegcbkaaDoor
open Go Go.Jx

theorem w34 (c : UInt8) (h : Heap) : Wc DD 34 [.sc (.int .u8 (c.toNat : Int))] h fun v h' => v = i64 (lv c) ∧ h' = h := by
  have hc0 := c.toNat_lt
  rw [lv_letter]
  refine W_enter d34 ?_
  show W _ (.code m34_code [.sc (.int .u8 (c.toNat : Int)), undefA, undefA, undefA, undefA, undefA, undefA, undefA, undefA, undefA, undefA, undefA, undefA, undefA, undefA, undefA, undefA, undefA, undefA, undefA, undefA, undefA, undefA, undefA, undefA, undefA, undefA, undefA, undefA, undefA, undefA, undefA, undefA, undefA, undefA, undefA, undefA, undefA, undefA, undefA, undefA] _) _
  unfold m34_code
  repeat' (first
    | (refine K_ops ?_; first
      | refine W_fastB rfl ?_
      | refine W_nil ?_
      | (refine K_guard ?_; first
        | refine W_guard_on rfl ?_
        | refine W_guard_off rfl rfl (W_norm rfl ?_)
        | (refine W_guardT rfl (fun hc => ?_) (fun hc => ?_) <;> (try rw [hc]) <;> (try simp only [cleanS, reduceCtorEq] at hc) <;> (try (exfalso; omega)) <;> (try refine W_norm rfl ?_))
      )
      | (refine K_bin ?_; first
        | (refine W_add rfl rfl (IntWalk.i64_in _ (by first | omega | (simp only [lenS]; omega))) ?_; refine W_norm rfl ?_)
        | (refine W_sub rfl rfl (IntWalk.i64_in _ (by first | omega | (simp only [lenS]; omega))) ?_; refine W_norm rfl ?_)
      )
      | (refine K_pick ?_; first
        | refine W_pick_t rfl rfl (W_norm rfl ?_)
        | refine W_pick_f rfl rfl (W_norm rfl ?_)
      )
      | (refine W_convint rfl (IntWalk.i64_in _ (by omega)) ?_; refine W_norm rfl ?_)
    )
    | (refine K_code ?_; first
      | refine W_seq ?_
      | refine W_ops ?_
      | refine W_cond_f rfl ?_
      | (refine W_cond rfl (fun hc => ?_) (fun hc => ?_) <;> (try rw [hc]) <;> (try simp only [cleanS, reduceCtorEq] at hc) <;> (try (exfalso; omega)) <;> (try refine W_norm rfl ?_))
      | refine W_skip ?_
      | refine W_ret ?_
      | refine W_block ?_
    )
    | refine seqK_n ?_
    | refine seqK_r ?_
    | refine blockK_r ?_
    | refine blockK_n ?_
    | (refine fnK_r rfl ?_; try dsimp only [gd_z, gd_s]))
  all_goals
    refine ⟨_, rfl, ?_, rfl⟩
    refine congrArg i64 ?_
    unfold letterR
    (repeat' split) <;> omega

/-! ## the document's base64 -/
def refGo (s : List UInt8) : Nat → Nat → Nat
  | 0, n => n
  | k + 1, n => if 0 < n ∧ s.getD (n - 1) 0 = 61 then refGo s k (n - 1) else n
theorem refN_go (s : List UInt8) : refN s = refGo s 2 s.length := by
  unfold refN lastEq
  simp only [refGo, decide_eq_true_eq]
  by_cases h1 : 0 < s.length ∧ s.getD (s.length - 1) 0 = 61
  · rw [if_pos h1, if_pos h1]
    have hl : (s.take (s.length - 1)).length = s.length - 1 := by rw [List.length_take]; omega
    rw [hl]
    by_cases h2 : 0 < s.length - 1
    · have e : (s.take (s.length - 1)).getD (s.length - 1 - 1) 0 = s.getD (s.length - 1 - 1) 0 := by
        rw [List.getD_eq_getElem?_getD, List.getD_eq_getElem?_getD, List.getElem?_take_of_lt (by omega)]
      rw [e]
      split <;> omega
    · rw [if_neg (by omega), if_neg (by omega)]
  · rw [if_neg h1, if_neg h1]
theorem refGo_le (s : List UInt8) : ∀ k n, refGo s k n ≤ n
  | 0, n => Nat.le_refl _
  | k + 1, n => by
    rw [refGo]
    split
    · have := refGo_le s k (n - 1); omega
    · exact Nat.le_refl _
def pw : List Int := [32, 16, 8, 4, 2, 1, 0]
theorem bitsL_take {s : List UInt8} {i : Nat} (hi : i < s.length) : bitsL (s.take (i + 1)) = bitsL (s.take i) ++ bits6 (lv (s.getD i 0)) := by
  unfold bitsL
  rw [List.take_add_one, getD_get? (d := 0) hi, List.flatMap_append]
  simp [Option.toList]
theorem bitsL_len (s : List UInt8) : (bitsL s).length = 6 * s.length := by
  induction s with
  | nil => rfl
  | cons a s ih =>
    show (bits6 (lv a) ++ bitsL s).length = _
    rw [List.length_append, ih]; simp [bits6]; omega
theorem bits6_01 (x : Int) : ∀ y ∈ bits6 x, y = 0 ∨ y = 1 := by
  intro y hy
  simp only [bits6, List.mem_cons, List.not_mem_nil, or_false] at hy
  omega
theorem bitsL_01 (s : List UInt8) : ∀ y ∈ bitsL s, y = 0 ∨ y = 1 := by
  intro y hy
  obtain ⟨b, _, h⟩ := List.mem_flatMap.1 hy
  exact bits6_01 _ y h
theorem byte8_snoc (l : List Int) (x : Int) : byte8 (l ++ [x]) = 2 * byte8 l + x := by simp [byte8, List.foldl_append]
theorem byte8_take {B : List Int} {i : Nat} (hi : i < B.length) : byte8 (B.take (i + 1)) = 2 * byte8 (B.take i) + B.getD i 0 := by
  rw [List.take_add_one, getD_get? (d := 0) hi]
  exact byte8_snoc _ _
theorem byte8_bound {B : List Int} (h : ∀ y ∈ B, y = 0 ∨ y = 1) : ∀ i, i ≤ B.length → 0 ≤ byte8 (B.take i) ∧ byte8 (B.take i) < 2 ^ i
  | 0, _ => by simp [byte8]
  | i + 1, hi => by
    have h1 := byte8_bound h i (by omega)
    have h2 := h _ (getD_mem (d := 0) (show i < B.length by omega))
    rw [byte8_take (by omega), Int.pow_succ]
    omega
theorem byte8_256 {B : List Int} (h : ∀ y ∈ B, y = 0 ∨ y = 1) {i : Nat} (hi : i ≤ 8) (hl : i ≤ B.length) : 0 ≤ byte8 (B.take i) ∧ byte8 (B.take i) < 256 := by
  have h1 := byte8_bound h i hl
  have : i = 0 ∨ i = 1 ∨ i = 2 ∨ i = 3 ∨ i = 4 ∨ i = 5 ∨ i = 6 ∨ i = 7 ∨ i = 8 := by omega
  rcases this with rfl | rfl | rfl | rfl | rfl | rfl | rfl | rfl | rfl <;> simp at h1 ⊢ <;> omega
theorem chunks8_step {B : List Int} (h : 8 ≤ B.length) : chunks8 B.length B = (byte8 (B.take 8) :: (chunks8 (B.drop 8).length (B.drop 8)).1, (chunks8 (B.drop 8).length (B.drop 8)).2) := by
  obtain ⟨m, hm⟩ : ∃ m, B.length = m + 1 := ⟨B.length - 1, by omega⟩
  rw [hm, chunks8, if_pos h, chunks8_more m (B.drop 8) (by rw [List.length_drop]; omega)]
theorem chunks8_small {B : List Int} (h : ¬ 8 ≤ B.length) : chunks8 B.length B = ([], B) := by
  cases hb : B.length with
  | zero => rfl
  | succ m => rw [chunks8, if_neg h]

theorem chunks8_len : ∀ (f : Nat) (b : List Int), (chunks8 f b).2.length ≤ b.length
  | 0, b => Nat.le_refl _
  | f + 1, b => by
    rw [chunks8]
    split
    · have := chunks8_len f (b.drop 8)
      rw [List.length_drop] at this
      simp only []; omega
    · exact Nat.le_refl _
theorem w18 {s : List UInt8} {h : Heap} (hl : s.length ≤ 100000) : Wc DD 18 [.sc (.str s)] h fun v h' => v = .tup [.sc (.str ((decR s).getD [])), .sc (.bool (decR s).isSome)] ∧ Sep (Now h) [] h' := by
  have hs := Sep.entry h
  refine W_enter d18 ?_
  show W _ (.code m18_code [.sc (.str s), undefA, undefA, undefA, undefA, undefA, undefA, undefA, undefA, undefA, undefA, undefA, undefA, undefA, undefA, undefA, undefA, undefA, undefA, undefA, undefA, undefA, undefA, undefA, undefA, undefA, undefA, undefA, undefA, undefA, undefA, undefA, undefA, undefA, undefA, undefA, undefA, undefA, undefA, undefA, undefA, undefA, undefA, undefA, undefA, undefA, undefA, undefA, undefA, undefA, undefA, undefA, undefA, undefA, undefA, undefA, undefA, undefA, undefA, undefA, undefA, undefA, undefA, undefA, undefA, undefA, undefA, undefA, undefA, undefA, undefA, undefA, undefA, undefA, undefA, undefA, undefA, undefA, undefA, undefA, undefA, undefA, undefA, undefA, undefA, undefA, undefA, undefA, undefA, undefA, undefA, undefA, undefA] _) _
  unfold m18_code
  by_cases h4 : s.length % 4 = 0
  · have hdr : decR s = outR (s.take (refN s)) := by unfold decR; rw [if_neg (by omega)]
    rw [hdr]
    repeat' (first
      | (refine K_ops ?_; first
        | refine W_fastB rfl ?_
        | refine W_nil ?_
        | (refine K_bin ?_; first
          | (refine W_mod rfl rfl (by omega) ?_; refine W_norm rfl ?_)
        )
      )
      | (refine K_code ?_; first
        | (refine W_midB (a := .seq (.ops m18_r4) _) [4, 5, 20, 21, 22, 23, 24, 25, 26, 27, 28, 29, 30, 31, 32, 33, 34, 35, 36] [0, 1, 2, 3, 4, 5, 6, 7, 8, 9, 10, 11, 12, 13, 14, 15, 16, 17, 18, 19, 20, 21, 22, 23, 24, 25, 26, 27, 28, 29, 30, 31, 32, 33, 34, 35, 36, 37, 38, 39, 40, 41, 42, 43, 44, 45, 46, 47, 48, 49, 50, 51, 52, 53, 54, 55, 56, 57, 58, 59, 60, 61, 62, 63, 64, 65, 66, 67, 68, 69, 70, 71, 72, 73, 74, 75, 76, 77, 78, 79, 80, 81, 82, 83, 84, 85, 86, 87, 88, 89, 90, 91, 92] (fun sl h' => sl = [(4, i64 (refN s : Int))] ∧ h' = h) ?_ ?_)
        | refine W_seq ?_
        | refine W_ops ?_
        | (refine W_cond rfl (fun hc => ?_) (fun hc => ?_) <;> (try rw [hc]) <;> (try simp only [cleanS, reduceCtorEq] at hc) <;> (try (exfalso; omega)) <;> (try refine W_norm rfl ?_))
        | refine W_skip ?_
        | refine W_block ?_
      )
      | refine seqK_n ?_)
    · refine W_loopB [4, 5, 20, 21, 22, 23, 24, 25, 26, 27, 28, 29, 30, 31, 32, 33, 34, 35, 36] [0, 1, 2, 3, 4, 5, 6, 7, 8, 9, 10, 11, 12, 13, 14, 15, 16, 17, 18, 19, 20, 21, 22, 23, 24, 25, 26, 27, 28, 29, 30, 31, 32, 33, 34, 35, 36, 37, 38, 39, 40, 41, 42, 43, 44, 45, 46, 47, 48, 49, 50, 51, 52, 53, 54, 55, 56, 57, 58, 59, 60, 61, 62, 63, 64, 65, 66, 67, 68, 69, 70, 71, 72, 73, 74, 75, 76, 77, 78, 79, 80, 81, 82, 83, 84, 85, 86, 87, 88, 89, 90, 91, 92] (fun n' sl h' => ∃ (i : Nat) (n : Nat), sl = [(4, i64 (n : Int)), (5, i64 (i : Int))] ∧ n' = 2 - i ∧ i ≤ 2 ∧ n ≤ s.length ∧ refN s = refGo s (2 - i) n ∧ h' = h) ?_ ?_
      · refine ⟨_, _, ⟨0, s.length, rfl, rfl, by omega, Nat.le_refl _, refN_go s, rfl⟩, EnvB.of rfl⟩
      rintro _ _ us _ h2 ⟨i, n, rfl, rfl, hi, hn, hr, rfl⟩ he
      refine W_spell he rfl ?_
      clear he
      unfold m18_l5
      have en : ((n : Int) - 1).toNat = n - 1 := by omega
      by_cases hgo : i < 2 ∧ 0 < n ∧ s.getD (n - 1) 0 = 61
      · obtain ⟨g1, g2, g3⟩ := hgo
        have g3' : ((s.getD ((n : Int) - 1).toNat 0).toNat : Int) = 61 := by rw [en, g3]; rfl
        have hr2 : refN s = refGo s (2 - (i + 1)) (n - 1) := by
          rw [hr, show 2 - i = (2 - (i + 1)) + 1 by omega, refGo, if_pos ⟨g2, g3⟩]
        repeat' (first
          | (refine K_ops ?_; first
            | refine W_fastB rfl ?_
            | refine W_nil ?_
            | (refine K_guard ?_; first
              | refine W_guard_on rfl ?_
              | (refine W_guardT rfl (fun hc => ?_) (fun hc => ?_) <;> (try rw [hc]) <;> (try simp only [cleanS, reduceCtorEq] at hc) <;> (try (exfalso; omega)) <;> (try refine W_norm rfl ?_))
            )
            | (refine K_bin ?_; first
              | (refine W_add rfl rfl (IntWalk.i64_in _ (by first | omega | (simp only [lenS]; omega))) ?_; refine W_norm rfl ?_)
              | (refine W_sub rfl rfl (IntWalk.i64_in _ (by first | omega | (simp only [lenS]; omega))) ?_; refine W_norm rfl ?_)
            )
            | (refine K_pick ?_; first
              | refine W_pick_t rfl rfl (W_norm rfl ?_)
            )
            | (refine W_idxStr rfl rfl ⟨(by first | omega | (simp only [lenS]; omega)), (by first | omega | (simp only [lenS]; omega))⟩ ?_; refine W_norm rfl ?_)
          )
          | (refine K_code ?_; first
            | refine W_seq ?_
            | refine W_ops ?_
            | (refine W_cond rfl (fun hc => ?_) (fun hc => ?_) <;> (try rw [hc]) <;> (try simp only [cleanS, reduceCtorEq] at hc) <;> (try (exfalso; omega)) <;> (try refine W_norm rfl ?_))
            | refine W_skip ?_
            | refine W_block ?_
          )
          | refine seqK_n ?_
          | refine blockK_n ?_
          | refine invK_n ?_)
        all_goals first | (exfalso; omega) | skip
        rw [show (n : Int) - 1 = ((n - 1 : Nat) : Int) by omega]
        refine ⟨_, ?_, _, ⟨i + 1, n - 1, rfl, rfl, by omega, by omega, hr2, rfl⟩, EnvB.of rfl⟩
        omega
      · have hrn : refN s = n := by
          rw [hr]
          by_cases g1 : i < 2
          · rw [show 2 - i = (2 - (i + 1)) + 1 by omega, refGo, if_neg (fun hh => hgo ⟨g1, hh⟩)]
          · rw [show 2 - i = 0 by omega]; rfl
        have hgo' : i < 2 → 0 < n → ¬ ((s.getD ((n : Int) - 1).toNat 0).toNat : Int) = 61 := by
          intro g1 g2 g3
          rw [en] at g3
          exact hgo ⟨g1, g2, UInt8.toNat_inj.1 (by show (s.getD (n - 1) 0).toNat = 61; omega)⟩
        rw [hrn]
        repeat' (first
          | (refine K_ops ?_; first
            | refine W_fastB rfl ?_
            | refine W_nil ?_
            | (refine K_guard ?_; first
              | refine W_guard_on rfl ?_
              | refine W_guard_off rfl rfl (W_norm rfl ?_)
              | (refine W_guardT rfl (fun hc => ?_) (fun hc => ?_) <;> (try rw [hc]) <;> (try simp only [cleanS, reduceCtorEq] at hc) <;> (try (exfalso; omega)) <;> (try refine W_norm rfl ?_))
            )
            | (refine K_bin ?_; first
              | (refine W_sub rfl rfl (IntWalk.i64_in _ (by first | omega | (simp only [lenS]; omega))) ?_; refine W_norm rfl ?_)
            )
            | (refine K_pick ?_; first
              | refine W_pick_t rfl rfl (W_norm rfl ?_)
              | refine W_pick_f rfl rfl (W_norm rfl ?_)
            )
            | (refine W_idxStr rfl rfl ⟨(by first | omega | (simp only [lenS]; omega)), (by first | omega | (simp only [lenS]; omega))⟩ ?_; refine W_norm rfl ?_)
          )
          | (refine K_code ?_; first
            | refine W_seq ?_
            | refine W_ops ?_
            | refine W_cond_f rfl ?_
            | (refine W_cond rfl (fun hc => ?_) (fun hc => ?_) <;> (try rw [hc]) <;> (try simp only [cleanS, reduceCtorEq] at hc) <;> (try (exfalso; omega)) <;> (try refine W_norm rfl ?_))
            | refine W_exit ?_
          )
          | refine seqK_n ?_
          | refine seqK_x ?_
          | refine blockK_e ?_
          | refine invK_x ?_
          | refine midK_n ?_)
        all_goals first | exact ⟨_, ⟨rfl, rfl⟩, EnvB.of rfl⟩ | (exfalso; omega)
    rintro _ us _ h2 ⟨rfl, rfl⟩ he
    refine W_spell he rfl ?_
    clear he
    obtain ⟨n, hn⟩ : ∃ n, n = refN s := ⟨_, rfl⟩
    have hnl := refN_le s
    rw [← hn] at hnl ⊢
    repeat' (first
      | (refine K_ops ?_; first
        | refine W_fastB rfl ?_
        | refine W_nil ?_
      )
      | (refine K_code ?_; first
        | (refine W_midB (a := .seq (.ops m18_r10) _) [2, 3, 6, 7, 8, 9, 37, 38, 39, 40, 41, 42, 43, 44, 45, 46, 47, 48, 49, 50, 51, 52, 53, 54, 55, 56, 57, 58] [0, 1, 2, 3, 4, 5, 6, 7, 8, 9, 10, 11, 12, 13, 14, 15, 16, 17, 18, 19, 20, 21, 22, 23, 24, 25, 26, 27, 28, 29, 30, 31, 32, 33, 34, 35, 36, 37, 38, 39, 40, 41, 42, 43, 44, 45, 46, 47, 48, 49, 50, 51, 52, 53, 54, 55, 56, 57, 58, 59, 60, 61, 62, 63, 64, 65, 66, 67, 68, 69, 70, 71, 72, 73, 74, 75, 76, 77, 78, 79, 80, 81, 82, 83, 84, 85, 86, 87, 88, 89, 90, 91, 92] (fun sl h' => ∃ (u : SV) (c : Hp), sl = [(6, .sc u)] ∧ (∀ x ∈ s.take n, 0 ≤ lv x) ∧ AccS (intEl .i64) 3 u (bitsL (s.take n)) c ∧ Sep (Now h2) [c] h') ?_ ?_)
        | refine W_seq ?_
        | refine W_ops ?_
        | refine W_block ?_
      )
      | refine seqK_n ?_)
    · refine W_loopB [2, 3, 6, 7, 8, 9, 37, 38, 39, 40, 41, 42, 43, 44, 45, 46, 47, 48, 49, 50, 51, 52, 53, 54, 55, 56, 57, 58] [0, 1, 2, 3, 4, 5, 6, 7, 8, 9, 10, 11, 12, 13, 14, 15, 16, 17, 18, 19, 20, 21, 22, 23, 24, 25, 26, 27, 28, 29, 30, 31, 32, 33, 34, 35, 36, 37, 38, 39, 40, 41, 42, 43, 44, 45, 46, 47, 48, 49, 50, 51, 52, 53, 54, 55, 56, 57, 58, 59, 60, 61, 62, 63, 64, 65, 66, 67, 68, 69, 70, 71, 72, 73, 74, 75, 76, 77, 78, 79, 80, 81, 82, 83, 84, 85, 86, 87, 88, 89, 90, 91, 92] (fun n' sl h' => ∃ (i : Nat) (u : SV) (c : Hp), sl = [(6, .sc u), (7, i64 (i : Int))] ∧ n' = n - i ∧ i ≤ n ∧ (∀ x ∈ s.take i, 0 ≤ lv x) ∧ AccS (intEl .i64) 3 u (bitsL (s.take i)) c ∧ Sep (Now h2) [c] h') ?_ ?_
      · refine ⟨_, _, ⟨0, .nils, [], rfl, rfl, Nat.zero_le _, (fun x hx => by simp at hx), AccS.nil _, hs.nil⟩, EnvB.of rfl⟩
      clear hs
      rintro _ _ us _ h3 ⟨i, u, c, rfl, rfl, hi, hall, ha, hs⟩ he
      refine W_spell he rfl ?_
      clear he
      unfold m18_l11
      by_cases hlt : i < n
      · have hil : i < s.length := by omega
        have hbt := bitsL_take hil
        have hbl := bitsL_len (s.take i)
        rw [List.length_take] at hbl
        have hin : (i : Int).toNat = i := by omega
        by_cases hneg : lv (s.getD i 0) < 0
        · repeat' (first
            | (refine K_ops ?_; first
              | refine W_fastB rfl ?_
              | refine W_nil ?_
              | (refine K_call ?_; first
                | (refine W_callsN 34 rfl (w34 (s.getD i 0) _) rfl ?_; rintro _ h ⟨rfl, rfl⟩; refine W_norm rfl ?_)
              )
              | (refine W_idxStr rfl rfl ⟨(by first | omega | (simp only [lenS]; omega)), (by first | omega | (simp only [lenS]; omega))⟩ ?_; refine W_norm rfl ?_)
            )
            | (refine K_code ?_; first
              | refine W_seq ?_
              | refine W_ops ?_
              | (refine W_cond rfl (fun hc => ?_) (fun hc => ?_) <;> (try rw [hc]) <;> (try simp only [cleanS, reduceCtorEq] at hc) <;> (try (exfalso; omega)) <;> (try refine W_norm rfl ?_))
              | refine W_skip ?_
              | refine W_ret ?_
              | refine W_block ?_
            )
            | refine seqK_n ?_
            | refine seqK_r ?_
            | refine blockK_r ?_
            | refine invK_r ?_
            | refine midK_r ?_
            | (refine fnK_r rfl ?_; try dsimp only [gd_z, gd_s]))
          have hno : outR (s.take n) = none := all_out (x := s.getD i 0) (by
            rw [List.mem_iff_getElem?]
            exact ⟨i, by rw [List.getElem?_take_of_lt hlt]; exact getD_get? hil⟩) hneg
          rw [hno]
          exact ⟨_, rfl, rfl, hs.none⟩
        · have hlr := lv_range (s.getD i 0)
          generalize hX : lv (s.getD i 0) = X at *
          repeat' (first
            | (refine K_ops ?_; first
              | refine W_fastB rfl ?_
              | refine W_nil ?_
              | (refine K_call ?_; first
                | (refine W_callsN 34 rfl (w34 (s.getD i 0) _) rfl ?_; rintro _ h ⟨rfl, rfl⟩; rw [hX]; refine W_norm rfl ?_)
              )
              | (refine W_idxStr rfl rfl ⟨(by first | omega | (simp only [lenS]; omega)), (by first | omega | (simp only [lenS]; omega))⟩ ?_; refine W_norm rfl ?_)
            )
            | (refine K_code ?_; first
              | refine W_seq ?_
              | refine W_ops ?_
              | (refine W_cond rfl (fun hc => ?_) (fun hc => ?_) <;> (try rw [hc]) <;> (try simp only [cleanS, reduceCtorEq] at hc) <;> (try (exfalso; omega)) <;> (try refine W_norm rfl ?_))
              | refine W_skip ?_
              | refine W_block ?_
            )
            | refine seqK_n ?_)
          have hX0 : 0 ≤ X := by omega
          clear hc hneg
          refine W_loopB [6, 9, 48, 49, 50, 51, 52, 53, 54, 55, 56, 57, 58] [0, 1, 2, 3, 4, 5, 6, 7, 8, 9, 10, 11, 12, 13, 14, 15, 16, 17, 18, 19, 20, 21, 22, 23, 24, 25, 26, 27, 28, 29, 30, 31, 32, 33, 34, 35, 36, 37, 38, 39, 40, 41, 42, 43, 44, 45, 46, 47, 48, 49, 50, 51, 52, 53, 54, 55, 56, 57, 58, 59, 60, 61, 62, 63, 64, 65, 66, 67, 68, 69, 70, 71, 72, 73, 74, 75, 76, 77, 78, 79, 80, 81, 82, 83, 84, 85, 86, 87, 88, 89, 90, 91, 92] (fun n' sl h' => ∃ (k : Nat) (u : SV) (c : Hp), sl = [(6, .sc u), (9, i64 (pw.getD k 0))] ∧ n' = 6 - k ∧ k ≤ 6 ∧ AccS (intEl .i64) 3 u (bitsL (s.take i) ++ (bits6 X).take k) c ∧ Sep (Now h2) [c] h') ?_ ?_
          · refine ⟨_, _, ⟨0, u, c, rfl, rfl, Nat.zero_le _, ?_, hs⟩, EnvB.of rfl⟩
            rw [List.take_zero, List.append_nil]; exact ha
          clear hs ha
          rintro _ _ us2 _ h5 ⟨k, u, c, rfl, rfl, hk, ha, hs⟩ he
          refine W_spell he rfl ?_
          clear he
          unfold m18_l17
          have hal : (bitsL (s.take i) ++ (bits6 X).take k).length ≤ 600010 := by
            rw [List.length_append, List.length_take, hbl]
            simp only [bits6, List.length_cons, List.length_nil]; omega
          obtain rfl | rfl | rfl | rfl | rfl | rfl | rfl : k = 0 ∨ k = 1 ∨ k = 2 ∨ k = 3 ∨ k = 4 ∨ k = 5 ∨ k = 6 := by omega
          · simp only [pw, List.getD_cons_succ, List.getD_cons_zero]
            repeat' (first
              | (refine K_ops ?_; first
                | refine W_fastB rfl ?_
                | refine W_nil ?_
                | (refine K_bin ?_; first
                  | (refine W_div rfl rfl (by omega) ?_; refine W_norm rfl ?_)
                  | (refine W_mod rfl rfl (by omega) ?_; refine W_norm rfl ?_)
                )
                | (refine K_bslice ?_; first
                  | (refine W_appB1 (intEl .i64) hs 0 rfl rfl rfl (by assumption) rfl rfl rfl ⟨by decide, (by first | omega | (simp only [lenS]; omega))⟩ ?_; clear hs; intro _ _ _ _ _ hs; try simp only [setS] at hs; refine W_norm rfl ?_)
                )
              )
              | (refine K_code ?_; first
                | refine W_seq ?_
                | refine W_ops ?_
                | refine W_cond_t rfl ?_
                | refine W_skip ?_
                | refine W_block ?_
              )
              | refine seqK_n ?_
              | refine blockK_n ?_
              | refine invK_n ?_)
            rename_i u6 c6 h6 ha6
            rw [List.append_assoc] at ha6
            refine ⟨_, ?_, _, ⟨1, u6, c6, rfl, rfl, ?_, ha6, hs⟩, EnvB.of rfl⟩ <;> omega
          · simp only [pw, List.getD_cons_succ, List.getD_cons_zero]
            repeat' (first
              | (refine K_ops ?_; first
                | refine W_fastB rfl ?_
                | refine W_nil ?_
                | (refine K_bin ?_; first
                  | (refine W_div rfl rfl (by omega) ?_; refine W_norm rfl ?_)
                  | (refine W_mod rfl rfl (by omega) ?_; refine W_norm rfl ?_)
                )
                | (refine K_bslice ?_; first
                  | (refine W_appB1 (intEl .i64) hs 0 rfl rfl rfl (by assumption) rfl rfl rfl ⟨by decide, (by first | omega | (simp only [lenS]; omega))⟩ ?_; clear hs; intro _ _ _ _ _ hs; try simp only [setS] at hs; refine W_norm rfl ?_)
                )
              )
              | (refine K_code ?_; first
                | refine W_seq ?_
                | refine W_ops ?_
                | refine W_cond_t rfl ?_
                | refine W_skip ?_
                | refine W_block ?_
              )
              | refine seqK_n ?_
              | refine blockK_n ?_
              | refine invK_n ?_)
            rename_i u6 c6 h6 ha6
            rw [List.append_assoc] at ha6
            refine ⟨_, ?_, _, ⟨2, u6, c6, rfl, rfl, ?_, ha6, hs⟩, EnvB.of rfl⟩ <;> omega
          · simp only [pw, List.getD_cons_succ, List.getD_cons_zero]
            repeat' (first
              | (refine K_ops ?_; first
                | refine W_fastB rfl ?_
                | refine W_nil ?_
                | (refine K_bin ?_; first
                  | (refine W_div rfl rfl (by omega) ?_; refine W_norm rfl ?_)
                  | (refine W_mod rfl rfl (by omega) ?_; refine W_norm rfl ?_)
                )
                | (refine K_bslice ?_; first
                  | (refine W_appB1 (intEl .i64) hs 0 rfl rfl rfl (by assumption) rfl rfl rfl ⟨by decide, (by first | omega | (simp only [lenS]; omega))⟩ ?_; clear hs; intro _ _ _ _ _ hs; try simp only [setS] at hs; refine W_norm rfl ?_)
                )
              )
              | (refine K_code ?_; first
                | refine W_seq ?_
                | refine W_ops ?_
                | refine W_cond_t rfl ?_
                | refine W_skip ?_
                | refine W_block ?_
              )
              | refine seqK_n ?_
              | refine blockK_n ?_
              | refine invK_n ?_)
            rename_i u6 c6 h6 ha6
            rw [List.append_assoc] at ha6
            refine ⟨_, ?_, _, ⟨3, u6, c6, rfl, rfl, ?_, ha6, hs⟩, EnvB.of rfl⟩ <;> omega
          · simp only [pw, List.getD_cons_succ, List.getD_cons_zero]
            repeat' (first
              | (refine K_ops ?_; first
                | refine W_fastB rfl ?_
                | refine W_nil ?_
                | (refine K_bin ?_; first
                  | (refine W_div rfl rfl (by omega) ?_; refine W_norm rfl ?_)
                  | (refine W_mod rfl rfl (by omega) ?_; refine W_norm rfl ?_)
                )
                | (refine K_bslice ?_; first
                  | (refine W_appB1 (intEl .i64) hs 0 rfl rfl rfl (by assumption) rfl rfl rfl ⟨by decide, (by first | omega | (simp only [lenS]; omega))⟩ ?_; clear hs; intro _ _ _ _ _ hs; try simp only [setS] at hs; refine W_norm rfl ?_)
                )
              )
              | (refine K_code ?_; first
                | refine W_seq ?_
                | refine W_ops ?_
                | refine W_cond_t rfl ?_
                | refine W_skip ?_
                | refine W_block ?_
              )
              | refine seqK_n ?_
              | refine blockK_n ?_
              | refine invK_n ?_)
            rename_i u6 c6 h6 ha6
            rw [List.append_assoc] at ha6
            refine ⟨_, ?_, _, ⟨4, u6, c6, rfl, rfl, ?_, ha6, hs⟩, EnvB.of rfl⟩ <;> omega
          · simp only [pw, List.getD_cons_succ, List.getD_cons_zero]
            repeat' (first
              | (refine K_ops ?_; first
                | refine W_fastB rfl ?_
                | refine W_nil ?_
                | (refine K_bin ?_; first
                  | (refine W_div rfl rfl (by omega) ?_; refine W_norm rfl ?_)
                  | (refine W_mod rfl rfl (by omega) ?_; refine W_norm rfl ?_)
                )
                | (refine K_bslice ?_; first
                  | (refine W_appB1 (intEl .i64) hs 0 rfl rfl rfl (by assumption) rfl rfl rfl ⟨by decide, (by first | omega | (simp only [lenS]; omega))⟩ ?_; clear hs; intro _ _ _ _ _ hs; try simp only [setS] at hs; refine W_norm rfl ?_)
                )
              )
              | (refine K_code ?_; first
                | refine W_seq ?_
                | refine W_ops ?_
                | refine W_cond_t rfl ?_
                | refine W_skip ?_
                | refine W_block ?_
              )
              | refine seqK_n ?_
              | refine blockK_n ?_
              | refine invK_n ?_)
            rename_i u6 c6 h6 ha6
            rw [List.append_assoc] at ha6
            refine ⟨_, ?_, _, ⟨5, u6, c6, rfl, rfl, ?_, ha6, hs⟩, EnvB.of rfl⟩ <;> omega
          · simp only [pw, List.getD_cons_succ, List.getD_cons_zero]
            repeat' (first
              | (refine K_ops ?_; first
                | refine W_fastB rfl ?_
                | refine W_nil ?_
                | (refine K_bin ?_; first
                  | (refine W_div rfl rfl (by omega) ?_; refine W_norm rfl ?_)
                  | (refine W_mod rfl rfl (by omega) ?_; refine W_norm rfl ?_)
                )
                | (refine K_bslice ?_; first
                  | (refine W_appB1 (intEl .i64) hs 0 rfl rfl rfl (by assumption) rfl rfl rfl ⟨by decide, (by first | omega | (simp only [lenS]; omega))⟩ ?_; clear hs; intro _ _ _ _ _ hs; try simp only [setS] at hs; refine W_norm rfl ?_)
                )
              )
              | (refine K_code ?_; first
                | refine W_seq ?_
                | refine W_ops ?_
                | refine W_cond_t rfl ?_
                | refine W_skip ?_
                | refine W_block ?_
              )
              | refine seqK_n ?_
              | refine blockK_n ?_
              | refine invK_n ?_)
            rename_i u6 c6 h6 ha6
            rw [List.append_assoc, Int.ediv_one] at ha6
            refine ⟨_, ?_, _, ⟨6, u6, c6, rfl, rfl, ?_, ha6, hs⟩, EnvB.of rfl⟩ <;> omega
          · simp only [pw, List.getD_cons_succ, List.getD_cons_zero]
            repeat' (first
              | (refine K_ops ?_; first
                | refine W_fastB rfl ?_
                | refine W_nil ?_
                | (refine K_bin ?_; first
                  | (refine W_add rfl rfl (IntWalk.i64_in _ (by first | omega | (simp only [lenS]; omega))) ?_; refine W_norm rfl ?_)
                )
              )
              | (refine K_code ?_; first
                | refine W_seq ?_
                | refine W_ops ?_
                | refine W_cond_f rfl ?_
                | refine W_exit ?_
              )
              | refine seqK_n ?_
              | refine seqK_x ?_
              | refine blockK_n ?_
              | refine blockK_e ?_
              | refine invK_x ?_
              | refine invK_n ?_)
            refine ⟨_, ?_, _, ⟨i + 1, u, c, rfl, rfl, ?_, ?_, ?_, hs⟩, EnvB.of rfl⟩
            · omega
            · omega
            · intro x hx
              rw [List.take_add_one, getD_get? (d := 0) hil] at hx
              rcases List.mem_append.1 hx with hx | hx
              · exact hall x hx
              · simp only [Option.toList, List.mem_singleton] at hx
                rw [hx, hX]; exact hX0
            · rw [hbt]; exact ha
      · obtain rfl : i = n := by omega
        repeat' (first
          | (refine K_ops ?_; first
            | refine W_fastB rfl ?_
            | refine W_nil ?_
          )
          | (refine K_code ?_; first
            | refine W_seq ?_
            | refine W_ops ?_
            | (refine W_cond rfl (fun hc => ?_) (fun hc => ?_) <;> (try rw [hc]) <;> (try simp only [cleanS, reduceCtorEq] at hc) <;> (try (exfalso; omega)) <;> (try refine W_norm rfl ?_))
            | refine W_exit ?_
          )
          | refine seqK_n ?_
          | refine seqK_x ?_
          | refine blockK_e ?_
          | refine invK_x ?_
          | refine midK_n ?_)
        exact ⟨_, ⟨u, c, rfl, hall, ha, hs⟩, EnvB.of rfl⟩
    clear hs
    rintro _ us _ h3 ⟨u, c, rfl, hall, ha, hs⟩ he
    refine W_spell he rfl ?_
    clear he
    have hbl := bitsL_len (s.take n)
    rw [List.length_take] at hbl
    have h01 := bitsL_01 (s.take n)
    have hou : outR (s.take n) = if ((chunks8 (bitsL (s.take n)).length (bitsL (s.take n))).2.all fun b => decide (b ≠ 1)) then some (toB (chunks8 (bitsL (s.take n)).length (bitsL (s.take n))).1) else none := by
      unfold outR
      rw [if_pos (List.all_eq_true.2 fun x hx => decide_eq_true (hall x hx))]
    rw [hou]
    generalize bitsL (s.take n) = B0 at *
    have hsl := ha.add (Now h2)
    replace hs := hs.freeze 0 rfl
    simp only [List.eraseIdx_zero, List.tail_cons] at hs
    have hend : ∀ {h'}, Sep ((Now h2).add c) [] h' → Sep (Now h2) [] h' := fun k => k.unadd
    repeat' (first
      | (refine K_ops ?_; first
        | refine W_fastB rfl ?_
        | refine W_nil ?_
      )
      | (refine K_code ?_; first
        | (refine W_midB (a := .block 6 _) [6, 10, 11, 12, 59, 60, 61, 62, 63, 64, 65, 66, 67, 68, 69, 70, 71, 72, 73, 74, 75, 76, 77, 78, 79] [0, 1, 2, 3, 4, 5, 6, 7, 8, 9, 10, 11, 12, 13, 14, 15, 16, 17, 18, 19, 20, 21, 22, 23, 24, 25, 26, 27, 28, 29, 30, 31, 32, 33, 34, 35, 36, 37, 38, 39, 40, 41, 42, 43, 44, 45, 46, 47, 48, 49, 50, 51, 52, 53, 54, 55, 56, 57, 58, 59, 60, 61, 62, 63, 64, 65, 66, 67, 68, 69, 70, 71, 72, 73, 74, 75, 76, 77, 78, 79, 80, 81, 82, 83, 84, 85, 86, 87, 88, 89, 90, 91, 92] (fun sl h' => ∃ (u : SV) (w : SV) (X : List Int) (B : List Int) (c2 : Hp), sl = [(6, .sc u), (10, .sc w)] ∧ SlR (intEl .i64) ((Now h2).add c) u B ∧ AccS (intEl .u8) 5 w X c2 ∧ (∀ x ∈ X, 0 ≤ x ∧ x < 256) ∧ chunks8 B0.length B0 = (X, B) ∧ Sep ((Now h2).add c) [c2] h') ?_ ?_)
        | refine W_seq ?_
        | refine W_ops ?_
        | refine W_block ?_
      )
      | refine seqK_n ?_)
    · refine W_loopB [6, 10, 11, 12, 59, 60, 61, 62, 63, 64, 65, 66, 67, 68, 69, 70, 71, 72, 73, 74, 75, 76, 77, 78, 79] [0, 1, 2, 3, 4, 5, 6, 7, 8, 9, 10, 11, 12, 13, 14, 15, 16, 17, 18, 19, 20, 21, 22, 23, 24, 25, 26, 27, 28, 29, 30, 31, 32, 33, 34, 35, 36, 37, 38, 39, 40, 41, 42, 43, 44, 45, 46, 47, 48, 49, 50, 51, 52, 53, 54, 55, 56, 57, 58, 59, 60, 61, 62, 63, 64, 65, 66, 67, 68, 69, 70, 71, 72, 73, 74, 75, 76, 77, 78, 79, 80, 81, 82, 83, 84, 85, 86, 87, 88, 89, 90, 91, 92] (fun n' sl h' => ∃ (u : SV) (w : SV) (X : List Int) (B : List Int) (c2 : Hp), sl = [(6, .sc u), (10, .sc w)] ∧ n' = B.length ∧ SlR (intEl .i64) ((Now h2).add c) u B ∧ AccS (intEl .u8) 5 w X c2 ∧ (∀ x ∈ X, 0 ≤ x ∧ x < 256) ∧ (∀ x ∈ B, x = 0 ∨ x = 1) ∧ B.length + X.length ≤ 600000 ∧ chunks8 B0.length B0 = (X ++ (chunks8 B.length B).1, (chunks8 B.length B).2) ∧ Sep ((Now h2).add c) [c2] h') ?_ ?_
      · refine ⟨_, _, ⟨u, .nils, [], B0, [], rfl, rfl, hsl, AccS.nil _, (fun x hx => by simp at hx), h01, ?_, rfl, hs.nil⟩, EnvB.of rfl⟩
        simp only [List.length_nil]; omega
      clear hs hsl ha
      rintro _ _ us _ h4 ⟨u, w, X, B, c2, rfl, rfl, hsl, ha, hX, hB, hlen, hch, hs⟩ he
      refine W_spell he rfl ?_
      clear he
      unfold m18_l23
      have hln := hsl.ln
      by_cases h8 : 8 ≤ B.length
      · repeat' (first
          | (refine K_ops ?_; first
            | refine W_fastB rfl ?_
            | refine W_nil ?_
            | (refine W_lenL rfl (by first | assumption | exact SlR.ln (by assumption) | exact AccS.ln (by assumption) | exact OwnS.ln (by assumption) | exact VwO.ln (by assumption) | exact OwnP.ln (by assumption) | exact Len.sl) ?_; refine W_norm rfl ?_)
          )
          | (refine K_code ?_; first
            | refine W_seq ?_
            | refine W_ops ?_
            | (refine W_cond rfl (fun hc => ?_) (fun hc => ?_) <;> (try rw [hc]) <;> (try simp only [cleanS, reduceCtorEq] at hc) <;> (try (exfalso; omega)) <;> (try refine W_norm rfl ?_))
            | refine W_skip ?_
            | refine W_block ?_
          )
          | refine seqK_n ?_)
        refine W_loopB [11, 12, 62, 63, 64, 65, 66, 67, 68, 69, 70, 71, 72] [0, 1, 2, 3, 4, 5, 6, 7, 8, 9, 10, 11, 12, 13, 14, 15, 16, 17, 18, 19, 20, 21, 22, 23, 24, 25, 26, 27, 28, 29, 30, 31, 32, 33, 34, 35, 36, 37, 38, 39, 40, 41, 42, 43, 44, 45, 46, 47, 48, 49, 50, 51, 52, 53, 54, 55, 56, 57, 58, 59, 60, 61, 62, 63, 64, 65, 66, 67, 68, 69, 70, 71, 72, 73, 74, 75, 76, 77, 78, 79, 80, 81, 82, 83, 84, 85, 86, 87, 88, 89, 90, 91, 92] (fun n' sl h' => ∃ (i : Nat), sl = [(11, i64 (byte8 (B.take i))), (12, i64 (i : Int))] ∧ n' = 8 - i ∧ i ≤ 8 ∧ Sep ((Now h2).add c) [c2] h') ?_ ?_
        · refine ⟨_, _, ⟨0, rfl, rfl, Nat.zero_le _, hs⟩, EnvB.of rfl⟩
        clear hs
        rintro _ _ us2 _ h5 ⟨i, rfl, rfl, hi, hs⟩ he
        refine W_spell he rfl ?_
        clear he
        unfold m18_l27
        have hb8 := byte8_256 hB hi (by omega)
        by_cases hlt : i < 8
        · have hbi : 0 ≤ B.getD (i : Int).toNat (intEl .i64).dflt ∧ B.getD (i : Int).toNat (intEl .i64).dflt ≤ 1 := by
            have := hB _ (getD_mem (d := 0) (show i < B.length by omega))
            show 0 ≤ B.getD i 0 ∧ B.getD i 0 ≤ 1
            omega
          have hbt := byte8_take (B := B) (i := i) (by omega)
          repeat' (first
            | (refine K_ops ?_; first
              | refine W_fastB rfl ?_
              | refine W_nil ?_
              | (refine K_bin ?_; first
                | (refine W_add rfl rfl (IntWalk.i64_in _ (by first | omega | (simp only [lenS]; omega))) ?_; refine W_norm rfl ?_)
                | (refine W_mul rfl rfl (IntWalk.i64_in _ (by first | omega | (simp only [lenS]; omega))) ?_; refine W_norm rfl ?_)
              )
              | (refine K_index ?_; first
                | (refine W_indexR rfl rfl (by assumption) rfl ⟨(by first | omega | (simp only [lenS]; omega)), (by first | omega | (simp only [lenS]; omega))⟩ ?_; intro _ _ _; refine W_norm rfl ?_)
              )
              | (refine K_load ?_; first
                | (refine W_loadR hs rfl (by assumption) rfl ?_; refine W_norm rfl ?_)
              )
            )
            | (refine K_code ?_; first
              | refine W_seq ?_
              | refine W_ops ?_
              | (refine W_cond rfl (fun hc => ?_) (fun hc => ?_) <;> (try rw [hc]) <;> (try simp only [cleanS, reduceCtorEq] at hc) <;> (try (exfalso; omega)) <;> (try refine W_norm rfl ?_))
              | refine W_skip ?_
              | refine W_block ?_
            )
            | refine seqK_n ?_
            | refine blockK_n ?_
            | refine invK_n ?_)
          have e : 2 * byte8 (B.take i) + B.getD (i : Int).toNat (intEl .i64).dflt = byte8 (B.take (i + 1)) := hbt.symm
          rw [e]
          refine ⟨_, ?_, _, ⟨i + 1, rfl, rfl, ?_, hs⟩, EnvB.of rfl⟩ <;> omega
        · obtain rfl : i = 8 := by omega
          repeat' (first
            | (refine K_ops ?_; first
              | refine W_fastB rfl ?_
              | refine W_nil ?_
              | (refine K_slice ?_; first
                | (refine W_sliceRFrom rfl rfl (by assumption) rfl ⟨(by first | omega | (simp only [lenS]; omega)), (by first | omega | (simp only [lenS]; omega))⟩ ?_; intro _ _; refine W_norm rfl ?_)
              )
              | (refine K_bslice ?_; first
                | (refine W_appB1 (intEl .u8) hs 0 rfl rfl rfl (by assumption) rfl rfl rfl ⟨by decide, (by first | omega | (simp only [lenS]; omega))⟩ ?_; clear hs; intro _ _ _ _ _ hs; try simp only [setS] at hs; refine W_norm rfl ?_)
              )
              | (refine W_convint rfl (IntWalk.u8_in _ (by omega)) ?_; refine W_norm rfl ?_)
            )
            | (refine K_code ?_; first
              | refine W_seq ?_
              | refine W_ops ?_
              | refine W_cond_f rfl ?_
              | refine W_exit ?_
            )
            | refine seqK_n ?_
            | refine seqK_x ?_
            | refine blockK_n ?_
            | refine blockK_e ?_
            | refine invK_x ?_
            | refine invK_n ?_)
          rename_i w6 c6 h6 ha6 v7 hv7
          rw [chunks8_step h8] at hch
          have hdl : (B.drop 8).length = B.length - 8 := List.length_drop
          refine ⟨_, ?_, _, ⟨v7, w6, X ++ [byte8 (B.take 8)], B.drop 8, c6, rfl, rfl, hv7, ha6, ?_, ?_, ?_, ?_, hs⟩, EnvB.of rfl⟩
          · omega
          · intro x hx
            rcases List.mem_append.1 hx with hx | hx
            · exact hX x hx
            · simp only [List.mem_singleton] at hx; subst hx; exact hb8
          · intro x hx; exact hB x (List.mem_of_mem_drop hx)
          · rw [List.length_append, List.length_cons, List.length_nil]; omega
          · rw [hch]; simp
      · rw [chunks8_small h8, List.append_nil] at hch
        repeat' (first
          | (refine K_ops ?_; first
            | refine W_fastB rfl ?_
            | refine W_nil ?_
            | (refine W_lenL rfl (by first | assumption | exact SlR.ln (by assumption) | exact AccS.ln (by assumption) | exact OwnS.ln (by assumption) | exact VwO.ln (by assumption) | exact OwnP.ln (by assumption) | exact Len.sl) ?_; refine W_norm rfl ?_)
          )
          | (refine K_code ?_; first
            | refine W_seq ?_
            | refine W_ops ?_
            | (refine W_cond rfl (fun hc => ?_) (fun hc => ?_) <;> (try rw [hc]) <;> (try simp only [cleanS, reduceCtorEq] at hc) <;> (try (exfalso; omega)) <;> (try refine W_norm rfl ?_))
            | refine W_exit ?_
          )
          | refine seqK_n ?_
          | refine seqK_x ?_
          | refine blockK_e ?_
          | refine invK_x ?_
          | refine midK_n ?_)
        exact ⟨_, ⟨u, w, X, B, c2, rfl, hsl, ha, hX, hch, hs⟩, EnvB.of rfl⟩
    clear hs hsl ha
    rintro _ us _ h4 ⟨u, w, X, B, c2, rfl, hsl, ha, hX, hch, hs⟩ he
    refine W_spell he rfl ?_
    clear he
    rw [hch]
    have hln := hsl.ln
    have hBl : B.length ≤ 600000 := by
      have := chunks8_len B0.length B0
      rw [hch] at this
      simp only [] at this
      omega
    repeat' (first
      | (refine K_ops ?_; first
        | refine W_fastB rfl ?_
        | refine W_nil ?_
      )
      | (refine K_code ?_; first
        | refine W_seq ?_
        | refine W_ops ?_
        | refine W_block ?_
      )
      | refine seqK_n ?_)
    refine W_loopB [2, 3, 13, 80, 81, 82, 83, 84, 85, 86, 87, 88, 89, 90] [0, 1, 2, 3, 4, 5, 6, 7, 8, 9, 10, 11, 12, 13, 14, 15, 16, 17, 18, 19, 20, 21, 22, 23, 24, 25, 26, 27, 28, 29, 30, 31, 32, 33, 34, 35, 36, 37, 38, 39, 40, 41, 42, 43, 44, 45, 46, 47, 48, 49, 50, 51, 52, 53, 54, 55, 56, 57, 58, 59, 60, 61, 62, 63, 64, 65, 66, 67, 68, 69, 70, 71, 72, 73, 74, 75, 76, 77, 78, 79, 80, 81, 82, 83, 84, 85, 86, 87, 88, 89, 90, 91, 92] (fun n' sl h' => ∃ (i : Nat), sl = [(13, i64 (i : Int))] ∧ n' = B.length - i ∧ i ≤ B.length ∧ (∀ j, j < i → B.getD j 0 ≠ 1) ∧ Sep ((Now h2).add c) [c2] h') ?_ ?_
    · refine ⟨_, _, ⟨0, rfl, rfl, Nat.zero_le _, (fun j hj => by omega), hs⟩, EnvB.of rfl⟩
    clear hs
    rintro _ _ us2 _ h5 ⟨i, rfl, rfl, hi, hz, hs⟩ he
    refine W_spell he rfl ?_
    clear he
    unfold m18_l34
    by_cases hlt : i < B.length
    · repeat' (first
        | (refine K_ops ?_; first
          | refine W_fastB rfl ?_
          | refine W_nil ?_
          | (refine W_lenL rfl (by first | assumption | exact SlR.ln (by assumption) | exact AccS.ln (by assumption) | exact OwnS.ln (by assumption) | exact VwO.ln (by assumption) | exact OwnP.ln (by assumption) | exact Len.sl) ?_; refine W_norm rfl ?_)
          | (refine K_bin ?_; first
            | (refine W_add rfl rfl (IntWalk.i64_in _ (by first | omega | (simp only [lenS]; omega))) ?_; refine W_norm rfl ?_)
          )
          | (refine K_index ?_; first
            | (refine W_indexR rfl rfl (by assumption) rfl ⟨(by first | omega | (simp only [lenS]; omega)), (by first | omega | (simp only [lenS]; omega))⟩ ?_; intro _ _ _; refine W_norm rfl ?_)
          )
          | (refine K_load ?_; first
            | (refine W_loadR hs rfl (by assumption) rfl ?_; refine W_norm rfl ?_)
          )
        )
        | (refine K_code ?_; first
          | refine W_seq ?_
          | refine W_ops ?_
          | (refine W_cond rfl (fun hc => ?_) (fun hc => ?_) <;> (try rw [hc]) <;> (try simp only [cleanS, reduceCtorEq] at hc) <;> (try (exfalso; omega)) <;> (try refine W_norm rfl ?_))
          | refine W_skip ?_
          | refine W_ret ?_
          | refine W_block ?_
        )
        | refine seqK_n ?_
        | refine seqK_r ?_
        | refine blockK_r ?_
        | refine blockK_n ?_
        | refine invK_r ?_
        | refine invK_n ?_
        | (refine fnK_r rfl ?_; try dsimp only [gd_z, gd_s]))
      · have hbad : (B.all fun b => decide (b ≠ 1)) = false := by
          rw [List.all_eq_false]
          exact ⟨B.getD i 0, getD_mem hlt, by rw [decide_eq_true_eq]; exact fun hh => hh hc⟩
        rw [hbad, if_neg (by decide)]
        exact ⟨_, rfl, rfl, hend hs.no0⟩
      · refine ⟨_, ?_, _, ⟨i + 1, rfl, rfl, ?_, ?_, hs⟩, EnvB.of rfl⟩
        · omega
        · omega
        · intro j hj
          rcases Nat.lt_or_ge j i with h1 | h1
          · exact hz j h1
          · obtain rfl : j = i := by omega
            exact hc
    · have hgood : (B.all fun b => decide (b ≠ 1)) = true := by
        rw [List.all_eq_true]
        intro x hx
        obtain ⟨j, hj, rfl⟩ := List.getElem_of_mem hx
        have := hz j (by omega)
        rw [List.getD_eq_getElem?_getD, List.getElem?_eq_getElem hj] at this
        simpa using this
      have hbs := bytes_of (L := toB X) (h := h5) (v := w) (by rw [ints_toB hX]; exact ha.now hs (by simp))
      repeat' (first
        | (refine K_ops ?_; first
          | refine W_fastB rfl ?_
          | refine W_nil ?_
          | (refine W_bytesStr hbs rfl ?_; refine W_norm rfl ?_)
          | (refine W_lenL rfl (by first | assumption | exact SlR.ln (by assumption) | exact AccS.ln (by assumption) | exact OwnS.ln (by assumption) | exact VwO.ln (by assumption) | exact OwnP.ln (by assumption) | exact Len.sl) ?_; refine W_norm rfl ?_)
        )
        | (refine K_code ?_; first
          | refine W_seq ?_
          | refine W_ops ?_
          | (refine W_cond rfl (fun hc => ?_) (fun hc => ?_) <;> (try rw [hc]) <;> (try simp only [cleanS, reduceCtorEq] at hc) <;> (try (exfalso; omega)) <;> (try refine W_norm rfl ?_))
          | refine W_ret ?_
          | refine W_exit ?_
        )
        | refine seqK_n ?_
        | refine seqK_x ?_
        | refine blockK_e ?_
        | refine invK_x ?_
        | (refine fnK_r rfl ?_; try dsimp only [gd_z, gd_s]))
      rw [hgood, if_pos rfl]
      exact ⟨_, rfl, rfl, hend hs.no0⟩
  · have hdr : decR s = none := by unfold decR; rw [if_pos h4]
    rw [hdr]
    repeat' (first
      | (refine K_ops ?_; first
        | refine W_fastB rfl ?_
        | refine W_nil ?_
        | (refine K_bin ?_; first
          | (refine W_mod rfl rfl (by omega) ?_; refine W_norm rfl ?_)
        )
      )
      | (refine K_code ?_; first
        | refine W_seq ?_
        | refine W_ops ?_
        | (refine W_cond rfl (fun hc => ?_) (fun hc => ?_) <;> (try rw [hc]) <;> (try simp only [cleanS, reduceCtorEq] at hc) <;> (try (exfalso; omega)) <;> (try refine W_norm rfl ?_))
        | refine W_ret ?_
      )
      | refine seqK_n ?_
      | refine seqK_r ?_
      | (refine fnK_r rfl ?_; try dsimp only [gd_z, gd_s]))
    exact ⟨_, rfl, rfl, hs⟩
end Go.Proofs.YtggkbkbhegcbkaaDoor
/- The gate: the document's clean titles, walked; the law GateTexts. -/
set_option linter.unusedSimpArgs false
set_option linter.unusedVariables false
set_option maxHeartbeats 1000000
set_option maxRecDepth 100000
namespace Go.Proofs.YtggkbkbhegcbkaaDoor
open Go Go.Jx

section
variable {D : Nat → Option MFunc} {Q : Ex → List AV → Heap → Prop} {e : List AV} {h : Heap} {dst : Option Nat} {r : List MI} {q : EqQ} {x y : Rnd} {a b : Int}
theorem W_div32 (hx : rd e x = .sc (.int .i32 a)) (hy : rd e y = .sc (.int .i32 b)) (h0 : 0 ≤ a ∧ 0 < b ∧ a ≤ 2147483647) (K : W D (.ops r (put e dst (.sc (.int .i32 (a / b)))) h) Q) : W D (.ops (⟨dst, .bin .quo q x y, none⟩ :: r) e h) Q :=
  W_quo hx hy (by omega) (by
    rw [Int.tdiv_eq_ediv_of_nonneg h0.1]
    have h1 := Int.ediv_le_self b h0.1
    have h2 := Int.ediv_nonneg h0.1 (show 0 ≤ b by omega)
    exact IntWalk.i32_in _ (by omega)) K
end
theorem w8 (h : Heap) : Wc DD 8 [] h fun v h' => v = .sc (.bool true) ∧ h' = h := W_known rfl
theorem w36 {r : Int} (hr : okR r) (h : Heap) : Wc DD 36 [.sc (.int .i32 r)] h fun v h' => v = .sc (.str (utf8 r)) ∧ Sep (Now h) [] h' := by
  have hs := Sep.entry h
  have hu := utf8_ints hr
  obtain ⟨h1, h2, h3⟩ := hr
  refine W_enter d36 ?_
  show W _ (.code m36_code [.sc (.int .i32 r), undefA, undefA, undefA, undefA, undefA, undefA, undefA, undefA, undefA, undefA, undefA, undefA, undefA, undefA, undefA, undefA, undefA, undefA, undefA, undefA, undefA, undefA, undefA, undefA, undefA, undefA, undefA, undefA, undefA, undefA, undefA, undefA, undefA, undefA, undefA, undefA, undefA, undefA, undefA, undefA, undefA, undefA, undefA, undefA, undefA, undefA, undefA, undefA, undefA, undefA, undefA, undefA, undefA, undefA, undefA, undefA, undefA] _) _
  unfold m36_code
  by_cases c1 : r < 128
  · rw [if_pos c1] at hu
    repeat' (first
      | (refine K_ops ?_; first
        | refine W_fastB rfl ?_
        | refine W_nil ?_
        | (refine W_bytesStr (L := utf8 r) (bytes_of (by rw [hu]; exact AccS.now (by assumption) hs (by simp))) rfl ?_; refine W_norm rfl ?_)
        | (refine K_bslice ?_; first
          | (refine W_buildS1 (intEl .u8) hs rfl rfl ?_; clear hs; intro _ _ _ _ hs; try simp only [setS] at hs; refine W_norm rfl ?_)
        )
        | (refine W_convint rfl (IntWalk.u8_in _ (by omega)) ?_; refine W_norm rfl ?_)
      )
      | (refine K_code ?_; first
        | refine W_seq ?_
        | refine W_ops ?_
        | (refine W_cond rfl (fun hc => ?_) (fun hc => ?_) <;> (try rw [hc]) <;> (try simp only [cleanS, reduceCtorEq] at hc) <;> (try (exfalso; omega)) <;> (try refine W_norm rfl ?_))
        | refine W_ret ?_
      )
      | refine seqK_n ?_
      | refine seqK_r ?_
      | (refine fnK_r rfl ?_; try dsimp only [gd_z, gd_s]))
    exact ⟨_, rfl, rfl, hs.none⟩
  by_cases c2 : r < 2048
  · rw [if_neg c1, if_pos c2] at hu
    repeat' (first
      | (refine K_ops ?_; first
        | refine W_fastB rfl ?_
        | refine W_nil ?_
        | (refine W_div32 rfl rfl (by omega) ?_; refine W_norm rfl ?_)
        | (refine W_bytesStr (L := utf8 r) (bytes_of (by rw [hu]; exact AccS.now (by assumption) hs (by simp))) rfl ?_; refine W_norm rfl ?_)
        | (refine K_bin ?_; first
          | (refine W_add rfl rfl (IntWalk.i32_in _ (by first | omega | (simp only [lenS]; omega))) ?_; refine W_norm rfl ?_)
          | (refine W_mod rfl rfl (by omega) ?_; refine W_norm rfl ?_)
        )
        | (refine K_bslice ?_; first
          | (refine W_buildS2 (intEl .u8) hs rfl rfl ?_; clear hs; intro _ _ _ _ hs; try simp only [setS] at hs; refine W_norm rfl ?_)
        )
        | (refine W_convint rfl (IntWalk.u8_in _ (by omega)) ?_; refine W_norm rfl ?_)
      )
      | (refine K_code ?_; first
        | refine W_seq ?_
        | refine W_ops ?_
        | (refine W_cond rfl (fun hc => ?_) (fun hc => ?_) <;> (try rw [hc]) <;> (try simp only [cleanS, reduceCtorEq] at hc) <;> (try (exfalso; omega)) <;> (try refine W_norm rfl ?_))
        | refine W_skip ?_
        | refine W_ret ?_
      )
      | refine seqK_n ?_
      | refine seqK_r ?_
      | (refine fnK_r rfl ?_; try dsimp only [gd_z, gd_s]))
    exact ⟨_, rfl, rfl, hs.none⟩
  by_cases c3 : r < 65536
  · rw [if_neg c1, if_neg c2, if_pos c3] at hu
    repeat' (first
      | (refine K_ops ?_; first
        | refine W_fastB rfl ?_
        | refine W_nil ?_
        | (refine W_div32 rfl rfl (by omega) ?_; refine W_norm rfl ?_)
        | (refine W_buildS (intEl .u8) hs (cs := [.int .u8 (224 + r / 4096), .int .u8 (128 + r / 64 % 64), .int .u8 (128 + r % 64)]) rfl rfl ?_; clear hs; intro v' c' h6 ha hv' hs; refine W_norm rfl ?_)
        | (refine W_bytesStr (L := utf8 r) (bytes_of (by rw [hu]; exact OwnS.now (by assumption) hs (by simp))) rfl ?_; refine W_norm rfl ?_)
        | (refine K_bin ?_; first
          | (refine W_add rfl rfl (IntWalk.i32_in _ (by first | omega | (simp only [lenS]; omega))) ?_; refine W_norm rfl ?_)
          | (refine W_mod rfl rfl (by omega) ?_; refine W_norm rfl ?_)
        )
        | (refine W_convint rfl (IntWalk.u8_in _ (by omega)) ?_; refine W_norm rfl ?_)
      )
      | (refine K_code ?_; first
        | refine W_seq ?_
        | refine W_ops ?_
        | (refine W_cond rfl (fun hc => ?_) (fun hc => ?_) <;> (try rw [hc]) <;> (try simp only [cleanS, reduceCtorEq] at hc) <;> (try (exfalso; omega)) <;> (try refine W_norm rfl ?_))
        | refine W_skip ?_
        | refine W_ret ?_
      )
      | refine seqK_n ?_
      | refine seqK_r ?_
      | (refine fnK_r rfl ?_; try dsimp only [gd_z, gd_s]))
    exact ⟨_, rfl, rfl, hs.none⟩
  · rw [if_neg c1, if_neg c2, if_neg c3] at hu
    repeat' (first
      | (refine K_ops ?_; first
        | refine W_fastB rfl ?_
        | refine W_nil ?_
        | (refine W_div32 rfl rfl (by omega) ?_; refine W_norm rfl ?_)
        | (refine W_buildS (intEl .u8) hs (cs := [.int .u8 (240 + r / 262144), .int .u8 (128 + r / 4096 % 64), .int .u8 (128 + r / 64 % 64), .int .u8 (128 + r % 64)]) rfl rfl ?_; clear hs; intro v' c' h6 ha hv' hs; refine W_norm rfl ?_)
        | (refine W_bytesStr (L := utf8 r) (bytes_of (by rw [hu]; exact OwnS.now (by assumption) hs (by simp))) rfl ?_; refine W_norm rfl ?_)
        | (refine K_bin ?_; first
          | (refine W_add rfl rfl (IntWalk.i32_in _ (by first | omega | (simp only [lenS]; omega))) ?_; refine W_norm rfl ?_)
          | (refine W_mod rfl rfl (by omega) ?_; refine W_norm rfl ?_)
        )
        | (refine W_convint rfl (IntWalk.u8_in _ (by omega)) ?_; refine W_norm rfl ?_)
      )
      | (refine K_code ?_; first
        | refine W_seq ?_
        | refine W_ops ?_
        | (refine W_cond rfl (fun hc => ?_) (fun hc => ?_) <;> (try rw [hc]) <;> (try simp only [cleanS, reduceCtorEq] at hc) <;> (try (exfalso; omega)) <;> (try refine W_norm rfl ?_))
        | refine W_skip ?_
        | refine W_ret ?_
      )
      | refine seqK_n ?_
      | (refine fnK_r rfl ?_; try dsimp only [gd_z, gd_s]))
    exact ⟨_, rfl, rfl, hs.none⟩
theorem ncl_len (L : List Int) : (ncl L).length ≤ L.length := List.length_filter_le _ _
theorem flat_len (l : List Int) : (l.flatMap utf8).length ≤ 4 * l.length := by
  induction l with
  | nil => simp
  | cons r l ih => rw [List.flatMap_cons, List.length_append, List.length_cons]; have := utf8_length r; omega
theorem w19 {h : Heap} {s : List UInt8} (hl : s.length ≤ 20000) : Wc DD 19 [.sc (.str s)] h fun v h' => v = .sc (.str (cleanL s)) ∧ Sep (Now h) [] h' := by
  have hs := Sep.entry h
  have hal := allP_len s
  have hab := allB_eq s
  have hok := allP_ok s
  refine W_enter d19 ?_
  show W _ (.code m19_code [.sc (.str s), undefA, undefA, undefA, undefA, undefA, undefA, undefA, undefA, undefA, undefA, undefA, undefA, undefA, undefA, undefA, undefA, undefA, undefA, undefA, undefA, undefA, undefA, undefA, undefA, undefA, undefA, undefA, undefA, undefA, undefA, undefA, undefA, undefA, undefA, undefA, undefA, undefA, undefA, undefA, undefA, undefA, undefA, undefA, undefA, undefA, undefA, undefA] _) _
  unfold m19_code
  repeat' (first
    | (refine K_ops ?_; first
      | refine W_fastB rfl ?_
      | refine W_nil ?_
      | (refine K_call ?_; first
        | (refine W_callsN 35 rfl (w35s (l := s) hl) rfl ?_; rintro _ h1 ⟨u, c, rfl, ha, t⟩; rw [hab] at ha; replace hs := hs.call t; try simp only [setS] at hs; refine W_norm rfl ?_)
      )
    )
    | (refine K_code ?_; first
      | refine W_seq ?_
      | refine W_ops ?_
      | refine W_block ?_
    )
    | refine seqK_n ?_)
  have hcl : cleanL s = ((ncl (allP s)).take 32).flatMap utf8 := rfl
  rw [hcl]
  generalize allP s = L at *
  have hsl := ha.add (Now h)
  replace hs := hs.freeze 0 rfl
  simp only [List.eraseIdx_zero, List.tail_cons] at hs
  have hend : ∀ {h'}, Sep ((Now h).add c) [] h' → Sep (Now h) [] h' := fun k => k.unadd
  have hln := ha.ln
  clear ha t
  refine W_loopB [3, 4, 6, 9, 10, 11, 12, 13, 14, 15, 16, 17, 18, 19, 20, 21, 22, 23, 24, 25, 26, 27, 28, 29, 30, 31, 32, 33, 34, 35, 36, 37, 38, 39, 40, 41, 42, 43, 44, 45, 46] [0, 1, 2, 3, 4, 5, 6, 7, 8, 9, 10, 11, 12, 13, 14, 15, 16, 17, 18, 19, 20, 21, 22, 23, 24, 25, 26, 27, 28, 29, 30, 31, 32, 33, 34, 35, 36, 37, 38, 39, 40, 41, 42, 43, 44, 45, 46, 47] (fun n' sl h' => ∃ (i : Nat), sl = [(3, .sc (.str (((ncl (L.take i)).take 32).flatMap utf8))), (4, i64 ((min (ncl (L.take i)).length 32 : Nat) : Int)), (6, i64 (i : Int))] ∧ n' = L.length - i ∧ i ≤ L.length ∧ Sep ((Now h).add c) [] h') ?_ ?_
  · refine ⟨_, _, ⟨0, rfl, rfl, Nat.zero_le _, hs⟩, EnvB.of rfl⟩
  clear hs
  rintro _ _ us _ h5 ⟨i, rfl, rfl, hi, hs⟩ he
  refine W_spell he rfl ?_
  clear he
  unfold m19_l5
  have hnl := ncl_len (L.take i)
  by_cases hlt : i < L.length
  · have hnt := ncl_take hlt
    have hor := hok _ (getD_mem (d := 0) hlt)
    have hfl := flat_len ((ncl (L.take i)).take 32)
    have hul := utf8_length (L.getD i 0)
    rw [List.length_take] at hfl
    have hge : L.getD (i : Int).toNat (intEl .i32).dflt = L.getD i 0 := rfl
    cases hct : ctl (L.getD i 0) with
    | true =>
      rw [hct, if_pos rfl] at hnt
      have hcx : L.getD i 0 < 32 ∨ (127 ≤ L.getD i 0 ∧ L.getD i 0 ≤ 159) := by unfold ctl at hct; simpa only [decide_eq_true_eq] using hct
      repeat' (first
        | (refine K_ops ?_; first
          | refine W_fastB rfl ?_
          | refine W_nil ?_
          | (refine K_guard ?_; first
            | refine W_guard_on rfl ?_
            | refine W_guard_off rfl rfl (W_norm rfl ?_)
            | refine W_guard_u rfl (W_norm rfl ?_)
            | (refine W_guardT rfl (fun hc => ?_) (fun hc => ?_) <;> (try rw [hc]) <;> (try simp only [cleanS, reduceCtorEq] at hc) <;> (try (exfalso; omega)) <;> (try refine W_norm rfl ?_))
            | (refine W_guardF rfl (fun hc => ?_) (fun hc => ?_) <;> (try rw [hc]) <;> (try simp only [cleanS, reduceCtorEq] at hc) <;> (try (exfalso; omega)) <;> (try refine W_norm rfl ?_))
          )
          | (refine W_lenL rfl (by first | assumption | exact SlR.ln (by assumption) | exact AccS.ln (by assumption) | exact OwnS.ln (by assumption) | exact VwO.ln (by assumption) | exact OwnP.ln (by assumption) | exact Len.sl) ?_; refine W_norm rfl ?_)
          | (refine K_bin ?_; first
            | (refine W_add rfl rfl (IntWalk.i64_in _ (by first | omega | (simp only [lenS]; omega))) ?_; refine W_norm rfl ?_)
          )
          | (refine K_pick ?_; first
            | refine W_pick_t rfl rfl (W_norm rfl ?_)
            | refine W_pick_f rfl rfl (W_norm rfl ?_)
          )
          | (refine K_index ?_; first
            | (refine W_indexR rfl rfl (by assumption) rfl ⟨(by first | omega | (simp only [lenS]; omega)), (by first | omega | (simp only [lenS]; omega))⟩ ?_; intro _ _ _; refine W_norm rfl ?_)
          )
          | (refine K_load ?_; first
            | (refine W_loadR hs rfl (by assumption) rfl ?_; refine W_norm rfl ?_)
          )
        )
        | (refine K_code ?_; first
          | refine W_seq ?_
          | refine W_ops ?_
          | refine W_cond_t rfl ?_
          | (refine W_cond rfl (fun hc => ?_) (fun hc => ?_) <;> (try rw [hc]) <;> (try simp only [cleanS, reduceCtorEq] at hc) <;> (try (exfalso; omega)) <;> (try refine W_norm rfl ?_))
          | refine W_skip ?_
          | refine W_exit ?_
          | refine W_block ?_
        )
        | refine seqK_n ?_
        | refine seqK_x ?_
        | refine blockK_e ?_
        | refine invK_n ?_)
      all_goals first
        | (exfalso; omega)
        | (refine ⟨_, ?_, _, ⟨i + 1, rfl, rfl, ?_, hs⟩, EnvB.of ?_⟩
           · omega
           · omega
           · rw [hnt]; rfl)
        | skip
    | false =>
      rw [hct, if_neg (by decide)] at hnt
      have hcx : ¬ (L.getD i 0 < 32 ∨ (127 ≤ L.getD i 0 ∧ L.getD i 0 ≤ 159)) := by unfold ctl at hct; simpa only [decide_eq_false_iff_not] using hct
      have hfull : 32 ≤ (ncl (L.take i)).length → (ncl (L.take (i + 1))).take 32 = (ncl (L.take i)).take 32 ∧ min (ncl (L.take (i + 1))).length 32 = min (ncl (L.take i)).length 32 := by
        intro h32
        rw [hnt, List.take_append_of_le_length h32, List.length_append]
        refine ⟨rfl, ?_⟩
        simp only [List.length_cons, List.length_nil]; omega
      have hroom : (ncl (L.take i)).length < 32 → ((ncl (L.take (i + 1))).take 32).flatMap utf8 = ((ncl (L.take i)).take 32).flatMap utf8 ++ utf8 (L.getD i 0) ∧ ((min (ncl (L.take (i + 1))).length 32 : Nat) : Int) = ((min (ncl (L.take i)).length 32 : Nat) : Int) + 1 := by
        intro h32
        have e1 : (ncl (L.take i) ++ [L.getD i 0]).take 32 = ncl (L.take i) ++ [L.getD i 0] := List.take_of_length_le (by rw [List.length_append, List.length_cons, List.length_nil]; omega)
        have e2 : (ncl (L.take i)).take 32 = ncl (L.take i) := List.take_of_length_le (by omega)
        rw [hnt, e1, e2, List.flatMap_append, List.length_append]
        refine ⟨by simp, ?_⟩
        simp only [List.length_cons, List.length_nil]; omega
      repeat' (first
        | (refine K_ops ?_; first
          | refine W_fastB rfl ?_
          | refine W_nil ?_
          | (refine K_guard ?_; first
            | refine W_guard_on rfl ?_
            | refine W_guard_off rfl rfl (W_norm rfl ?_)
            | (refine W_guardT rfl (fun hc => ?_) (fun hc => ?_) <;> (try rw [hc]) <;> (try simp only [cleanS, reduceCtorEq] at hc) <;> (try (exfalso; omega)) <;> (try refine W_norm rfl ?_))
            | (refine W_guardF rfl (fun hc => ?_) (fun hc => ?_) <;> (try rw [hc]) <;> (try simp only [cleanS, reduceCtorEq] at hc) <;> (try (exfalso; omega)) <;> (try refine W_norm rfl ?_))
          )
          | (refine K_call ?_; first
            | (refine W_callsN 36 rfl (w36 hor _) rfl ?_; rintro _ h ⟨rfl, t⟩; replace hs := hs.call t; try simp only [setS] at hs; refine W_norm rfl ?_)
          )
          | (refine W_lenL rfl (by first | assumption | exact SlR.ln (by assumption) | exact AccS.ln (by assumption) | exact OwnS.ln (by assumption) | exact VwO.ln (by assumption) | exact OwnP.ln (by assumption) | exact Len.sl) ?_; refine W_norm rfl ?_)
          | (refine K_bin ?_; first
            | (refine W_add rfl rfl (IntWalk.i64_in _ (by first | omega | (simp only [lenS]; omega))) ?_; refine W_norm rfl ?_)
            | (refine W_cat rfl rfl (by first | omega | (simp only [lenS]; omega)) ?_; refine W_norm rfl ?_)
          )
          | (refine K_pick ?_; first
            | refine W_pick_t rfl rfl (W_norm rfl ?_)
            | refine W_pick_f rfl rfl (W_norm rfl ?_)
          )
          | (refine K_index ?_; first
            | (refine W_indexR rfl rfl (by assumption) rfl ⟨(by first | omega | (simp only [lenS]; omega)), (by first | omega | (simp only [lenS]; omega))⟩ ?_; intro _ _ _; refine W_norm rfl ?_)
          )
          | (refine K_load ?_; first
            | (refine W_loadR hs rfl (by assumption) rfl ?_; refine W_norm rfl ?_)
          )
        )
        | (refine K_code ?_; first
          | refine W_seq ?_
          | refine W_ops ?_
          | (refine W_cond rfl (fun hc => ?_) (fun hc => ?_) <;> (try rw [hc]) <;> (try simp only [cleanS, reduceCtorEq] at hc) <;> (try (exfalso; omega)) <;> (try refine W_norm rfl ?_))
          | refine W_skip ?_
          | refine W_exit ?_
          | refine W_block ?_
        )
        | refine seqK_n ?_
        | refine seqK_x ?_
        | refine blockK_n ?_
        | refine blockK_e ?_
        | refine invK_n ?_)
      all_goals first
        | (exfalso; omega)
        | (obtain ⟨f1, f2⟩ := hfull (by omega)
           refine ⟨_, ?_, _, ⟨i + 1, rfl, rfl, ?_, hs⟩, EnvB.of ?_⟩
           · omega
           · omega
           · rw [f1, f2]; rfl)
        | (obtain ⟨f1, f2⟩ := hroom (by omega)
           refine ⟨_, ?_, _, ⟨i + 1, rfl, rfl, ?_, hs⟩, EnvB.of ?_⟩
           · omega
           · omega
           · rw [f1, f2]; rfl)
        | skip
  · obtain rfl : i = L.length := by omega
    rw [List.take_length]
    repeat' (first
      | (refine K_ops ?_; first
        | refine W_fastB rfl ?_
        | refine W_nil ?_
        | (refine W_lenL rfl (by first | assumption | exact SlR.ln (by assumption) | exact AccS.ln (by assumption) | exact OwnS.ln (by assumption) | exact VwO.ln (by assumption) | exact OwnP.ln (by assumption) | exact Len.sl) ?_; refine W_norm rfl ?_)
      )
      | (refine K_code ?_; first
        | refine W_seq ?_
        | refine W_ops ?_
        | (refine W_cond rfl (fun hc => ?_) (fun hc => ?_) <;> (try rw [hc]) <;> (try simp only [cleanS, reduceCtorEq] at hc) <;> (try (exfalso; omega)) <;> (try refine W_norm rfl ?_))
        | refine W_ret ?_
        | refine W_exit ?_
      )
      | refine seqK_n ?_
      | refine seqK_x ?_
      | refine blockK_e ?_
      | refine invK_x ?_
      | (refine fnK_r rfl ?_; try dsimp only [gd_z, gd_s]))
    exact ⟨_, rfl, rfl, hend hs⟩
end Go.Proofs.YtggkbkbhegcbkaaDoor
