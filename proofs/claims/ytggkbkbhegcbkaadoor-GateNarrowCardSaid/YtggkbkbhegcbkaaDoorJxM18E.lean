import Derived.Test.YtggkbkbhegcbkaaDoorJxM18B
import Derived.Test.YtggkbkbhegcbkaaDoorJxM18D
/- Characters, plainly: what a text tells may be spelt; what is spelt tells just its characters. -/
set_option linter.unusedSimpArgs false
set_option linter.unusedVariables false
set_option maxHeartbeats 1000000
set_option maxRecDepth 100000
namespace Go.Proofs.YtggkbkbhegcbkaaDoor
open Go Go.Jx

/-- A character that may be spelt. -/
def okR (r : Int) : Prop := 0 ≤ r ∧ r ≤ 1114111 ∧ (r < 55296 ∨ 57343 < r)
theorem firstL_ok (d : Dec) {b : Int} (hb : 0 ≤ b ∧ b < 256) : ∀ r ∈ (firstL d b).2, okR r := by
  intro r hr
  unfold firstL at hr
  split at hr
  · simp at hr; subst hr; unfold okR; omega
  split at hr
  · rename_i h1 h2
    simp only [List.mem_singleton] at hr
    subst hr
    have : (beginsL b).2.2.2 = b ∧ b < 128 := by
      unfold beginsL at h1 h2 ⊢
      by_cases h : b < 128
      · rw [if_pos h]; exact ⟨rfl, h⟩
      · rw [if_neg h] at h1 h2
        exfalso
        revert h1 h2
        repeat' split
        all_goals simp
    unfold okR; omega
  · simp at hr
theorem byteL_ok {d : Dec} {s : List Int} {b : Int} (h : Same d s) (hb : 0 ≤ b ∧ b < 256) : ∀ r ∈ (byteL d b).2, okR r := by
  intro r hr
  have hf0 := firstL_ok dec0 hb
  have hfd := firstL_ok d hb
  unfold byteL at hr
  split at hr
  · rename_i hin
    split at hr
    · rename_i hone
      simp only [List.mem_singleton] at hr
      subst hr
      rcases h with ⟨rfl, rfl⟩ | ⟨b0, rfl, h1, h2, rfl⟩ | ⟨b0, b1, rfl, h1, h2, h3, h4, rfl⟩ | ⟨b0, b1, b2, rfl, h1, h2, h3, h4, h5, h6, rfl⟩
      · simp [dec0] at hin
      all_goals
        rcases range6 (b := b0) (by omega) with ⟨h, e⟩ | ⟨h, e⟩ | ⟨h, e⟩ | ⟨h, h', h'', e⟩ | ⟨h, e⟩ | ⟨h, e⟩ | ⟨h, h', e⟩ <;> rw [e] at hone hin ⊢ <;> (try rw [e] at h3 h4) <;> simp only at hone hin ⊢ <;> (try simp only at h3 h4) <;> unfold okR <;> omega
    · simp at hr
  split at hr
  · rcases List.mem_cons.1 hr with rfl | hr
    · unfold okR; omega
    · exact hf0 r hr
  · exact hfd r hr
theorem runP_ok : ∀ (l : List UInt8) (d : Dec) (s : List Int), Same d s → ∀ r ∈ (runP d l).2, okR r
  | [], d, s, h, r, hr => by simp [runP] at hr
  | b :: l, d, s, h, r, hr => by
    have hb : 0 ≤ (b.toNat : Int) ∧ (b.toNat : Int) < 256 := ⟨by omega, by have := b.toNat_lt; omega⟩
    simp only [runP, List.mem_append] at hr
    rcases hr with hr | hr
    · exact byteL_ok h hb r hr
    · exact runP_ok l _ _ (byte_same h hb).1 r hr
theorem allP_ok (s : List UInt8) : ∀ r ∈ allP s, okR r := by
  intro r hr
  unfold allP tailP at hr
  rcases List.mem_append.1 hr with hr | hr
  · exact runP_ok s dec0 [] same0 r hr
  · split at hr
    · simp at hr
    · simp at hr; subst hr; unfold okR; omega

/-- The bytes of a character. -/
theorem utf8_ints {r : Int} (h : okR r) : ints (utf8 r) = if r < 128 then [r] else if r < 2048 then [192 + r / 64, 128 + r % 64] else if r < 65536 then [224 + r / 4096, 128 + r / 64 % 64, 128 + r % 64] else [240 + r / 262144, 128 + r / 4096 % 64, 128 + r / 64 % 64, 128 + r % 64] := by
  obtain ⟨h1, h2, h3⟩ := h
  show intsB (utf8 r) = _
  split
  · exact utf8_1 (by omega)
  split
  · exact utf8_2 (by omega)
  split
  · exact utf8_3 (by omega) (by omega)
  · exact utf8_4 (by omega)
def runI : Dec → List Int → Dec × List Int
  | d, [] => (d, [])
  | d, b :: l => ((runI (byteL d b).1 l).1, (byteL d b).2 ++ (runI (byteL d b).1 l).2)
theorem runI_ints (l : List UInt8) (d : Dec) : runP d l = runI d (ints l) := by
  induction l generalizing d with
  | nil => rfl
  | cons b l ih => show ((runP _ l).1, _ ++ (runP _ l).2) = ((runI _ (ints l)).1, _ ++ (runI _ (ints l)).2); rw [ih]
theorem first_big {b : Int} (d : Dec) (h : 194 ≤ b ∧ b ≤ 244) : firstL d b = (⟨1, (beginsL b).1, (beginsL b).2.1, (beginsL b).2.2.1, (beginsL b).2.2.2⟩, []) := by
  unfold firstL
  rcases range6 h with ⟨h, e⟩ | ⟨h, e⟩ | ⟨h, e⟩ | ⟨h, h', h'', e⟩ | ⟨h, e⟩ | ⟨h, e⟩ | ⟨h, h', e⟩ <;> rw [e] <;> simp
theorem byte0 (b : Int) : byteL dec0 b = firstL dec0 b := by unfold byteL; rw [if_neg (by simp [dec0]), if_neg (by simp [dec0])]
theorem byteL_in {k l lo hi x b : Int} (h1 : 0 < k) (h2 : lo ≤ b ∧ b ≤ hi) (h3 : ¬ l - 1 = 0) : byteL ⟨k, l, lo, hi, x⟩ b = (⟨k + 1, l - 1, 128, 191, x * 64 + b % 64⟩, []) := by
  unfold byteL
  rw [if_pos ⟨h1, h2.1, h2.2⟩, if_neg h3]
theorem byteL_end {k l lo hi x b r : Int} (h1 : 0 < k) (h2 : lo ≤ b ∧ b ≤ hi) (h3 : l - 1 = 0) (hr : x * 64 + b % 64 = r) : byteL ⟨k, l, lo, hi, x⟩ b = (dec0, [r]) := by
  unfold byteL
  rw [if_pos ⟨h1, h2.1, h2.2⟩, if_pos h3]
  simp only [hr]
theorem run2 {a b r : Int} {d1 : Dec} (h1 : byteL dec0 a = (d1, [])) (h2 : byteL d1 b = (dec0, [r])) : runI dec0 [a, b] = (dec0, [r]) := by simp [runI, h1, h2]
theorem run3 {a b c r : Int} {d1 d2 : Dec} (h1 : byteL dec0 a = (d1, [])) (h2 : byteL d1 b = (d2, [])) (h3 : byteL d2 c = (dec0, [r])) : runI dec0 [a, b, c] = (dec0, [r]) := by simp [runI, h1, h2, h3]
theorem run4 {a b c d r : Int} {d1 d2 d3 : Dec} (h1 : byteL dec0 a = (d1, [])) (h2 : byteL d1 b = (d2, [])) (h3 : byteL d2 c = (d3, [])) (h4 : byteL d3 d = (dec0, [r])) : runI dec0 [a, b, c, d] = (dec0, [r]) := by simp [runI, h1, h2, h3, h4]
theorem run_char {r : Int} (h : okR r) : runI dec0 (ints (utf8 r)) = (dec0, [r]) := by
  rw [utf8_ints h]
  obtain ⟨h1, h2, h3⟩ := h
  by_cases c1 : r < 128
  · rw [if_pos c1]
    have e1 : beginsL r = (0, 0, 0, r) := by unfold beginsL; rw [if_pos c1]
    simp [runI, byte0, firstL, e1]
  rw [if_neg c1]
  by_cases c2 : r < 2048
  · rw [if_pos c2]
    have hb : 194 ≤ 192 + r / 64 ∧ 192 + r / 64 ≤ 244 := by omega
    have e0 := (byte0 (192 + r / 64)).trans (first_big dec0 hb)
    rcases range6 hb with ⟨h, e⟩ | ⟨h, e⟩ | ⟨h, e⟩ | ⟨h, h', h'', e⟩ | ⟨h, e⟩ | ⟨h, e⟩ | ⟨h, h', e⟩
    · rw [e] at e0
      exact run2 e0 (byteL_end (by omega) (by simp only; omega) (by omega) (by simp only; omega))
    all_goals (exfalso; omega)
  rw [if_neg c2]
  by_cases c3 : r < 65536
  · rw [if_pos c3]
    have hb : 194 ≤ 224 + r / 4096 ∧ 224 + r / 4096 ≤ 244 := by omega
    have e0 := (byte0 (224 + r / 4096)).trans (first_big dec0 hb)
    rcases range6 hb with ⟨h, e⟩ | ⟨h, e⟩ | ⟨h, e⟩ | ⟨h, h', h'', e⟩ | ⟨h, e⟩ | ⟨h, e⟩ | ⟨h, h', e⟩
    · exfalso; omega
    · rw [e] at e0
      exact run3 e0 (byteL_in (by omega) (by simp only; omega) (by simp only; omega)) (byteL_end (by omega) (by omega) (by simp only; omega) (by simp only; omega))
    · rw [e] at e0
      exact run3 e0 (byteL_in (by omega) (by simp only; omega) (by simp only; omega)) (byteL_end (by omega) (by omega) (by simp only; omega) (by simp only; omega))
    · rw [e] at e0
      exact run3 e0 (byteL_in (by omega) (by simp only; omega) (by simp only; omega)) (byteL_end (by omega) (by omega) (by simp only; omega) (by simp only; omega))
    all_goals (exfalso; omega)
  · rw [if_neg c3]
    have hb : 194 ≤ 240 + r / 262144 ∧ 240 + r / 262144 ≤ 244 := by omega
    have e0 := (byte0 (240 + r / 262144)).trans (first_big dec0 hb)
    rcases range6 hb with ⟨h, e⟩ | ⟨h, e⟩ | ⟨h, e⟩ | ⟨h, h', h'', e⟩ | ⟨h, e⟩ | ⟨h, e⟩ | ⟨h, h', e⟩
    · exfalso; omega
    · exfalso; omega
    · exfalso; omega
    · exfalso; omega
    all_goals
      rw [e] at e0
      exact run4 e0 (byteL_in (by omega) (by simp only; omega) (by simp only; omega)) (byteL_in (by omega) (by omega) (by simp only; omega)) (byteL_end (by omega) (by omega) (by simp only; omega) (by simp only; omega))
theorem run_chars : ∀ (l : List Int), (∀ r ∈ l, okR r) → runP dec0 (l.flatMap utf8) = (dec0, l)
  | [], _ => rfl
  | r :: l, h => by
    have h1 := run_chars l fun x hx => h x (by simp [hx])
    have h2 : runP dec0 (utf8 r) = (dec0, [r]) := by rw [runI_ints]; exact run_char (h r (by simp))
    rw [List.flatMap_cons, runP_append, h2, h1]
    rfl
/-- What is spelt tells its characters. -/
theorem allP_spelt {l : List Int} (h : ∀ r ∈ l, okR r) : allP (l.flatMap utf8) = l := by
  unfold allP
  rw [run_chars l h]
  simp [tailP, dec0]
theorem clean_chars (s : List UInt8) : (∀ r ∈ (ncl (allP s)).take 32, okR r ∧ ctl r = false) := by
  intro r hr
  have h1 := List.mem_of_mem_take hr
  unfold ncl at h1
  rw [List.mem_filter] at h1
  exact ⟨allP_ok s r h1.1, by simpa using h1.2⟩
theorem allP_clean (s : List UInt8) : allP (cleanL s) = (ncl (allP s)).take 32 := allP_spelt fun r hr => (clean_chars s r hr).1
/-- Clean is clean. -/
theorem clean_twice (s : List UInt8) : cleanL (cleanL s) = cleanL s := by
  have h1 := allP_clean s
  have h2 : ncl ((ncl (allP s)).take 32) = (ncl (allP s)).take 32 := by
    refine List.filter_eq_self.2 fun r hr => ?_
    rw [(clean_chars s r hr).2]; rfl
  show ((ncl (allP (cleanL s))).take 32).flatMap utf8 = _
  rw [h1, h2, List.take_take]
  rfl
theorem clean_len (s : List UInt8) : (cleanL s).length ≤ 128 := by
  have key : ∀ l : List Int, (l.flatMap utf8).length ≤ 4 * l.length := by
    intro l
    induction l with
    | nil => simp
    | cons r l ih => rw [List.flatMap_cons, List.length_append, List.length_cons]; have := utf8_length r; omega
  have := key ((ncl (allP s)).take 32)
  rw [List.length_take] at this
  unfold cleanL
  omega
end Go.Proofs.YtggkbkbhegcbkaaDoor
/- The law GateNarrow. -/
set_option linter.unusedSimpArgs false
set_option linter.unusedVariables false
set_option maxHeartbeats 1000000
set_option maxRecDepth 100000
namespace Go.Proofs.YtggkbkbhegcbkaaDoor
open Go Go.Jx

theorem asks_range (f : UInt8) (m : List UInt8) (G : List (List Int)) : 0 ≤ asksL f m G ∧ asksL f m G ≤ 5 := by
  unfold asksL
  repeat' split
  all_goals omega
theorem sys_facts (t : List UInt8) (x : Flow) (hx : sysL t = x) : (x.1 = 2 ∨ x.1 = 4 ∨ x.1 = 5 ∨ x.1 = 7) ∧ x.2.1 = 0 ∧ (x.2.2 ≠ [] → x.1 = 2 ∨ x.1 = 4) ∧ x.2.2.length ≤ 4096 ∧ (x.1 = 2 → ∃ r, x.2.2 = cleanL r) := by
  subst hx
  unfold sysL
  split
  · split
    · have := clean_len (cutL t 59).2.1
      exact ⟨.inl rfl, rfl, fun _ => .inl rfl, by show (cleanL _).length ≤ 4096; omega, fun _ => ⟨_, rfl⟩⟩
    · simp
  split
  · split
    · simp
    split
    · rename_i h
      exact ⟨.inr (.inl rfl), rfl, fun _ => .inr rfl, h.2.2, fun h => by simp at h⟩
    · simp
  · simp
theorem class_facts (k : Int) (f : UInt8) (m : List UInt8) (G : List (List Int)) (t : List UInt8) (x : Flow) (hx : classL k f m G t = x) : (1 ≤ x.1 ∧ x.1 ≤ 7) ∧ (x.2.1 = 0 ∨ x.1 = 6) ∧ (x.1 = 6 → x.2.1 ≠ 0) ∧ (0 ≤ x.2.1 ∧ x.2.1 ≤ 5) ∧ (x.2.2 ≠ [] → x.1 = 2 ∨ x.1 = 4) ∧ x.2.2.length ≤ 4096 ∧ (x.1 = 2 → ∃ r, x.2.2 = cleanL r) ∧ ((1 ≤ k ∧ k ≤ 5) ∨ x.1 = 7) := by
  subst hx
  have ha := asks_range f m G
  unfold classL
  split
  · rename_i hg
    have hk : 1 ≤ k ∧ k ≤ 5 := by
      unfold gridB at hg
      split at hg
      · omega
      split at hg
      · omega
      split at hg
      · omega
      · simp only [Bool.and_eq_true, decide_eq_true_eq] at hg; omega
    refine ⟨?_, ?_, ?_, ?_, ?_, ?_, ?_, .inl hk⟩ <;> simp
  split
  · rename_i h
    refine ⟨?_, ?_, ?_, ?_, ?_, ?_, ?_, .inl (by omega)⟩ <;> simp
  split
  · rename_i h
    obtain ⟨s1, s2, s3, s4, s5⟩ := sys_facts t _ rfl
    exact ⟨by omega, .inl s2, fun h => by omega, by omega, s3, s4, s5, .inl (by omega)⟩
  split
  · rename_i h
    refine ⟨by simp, .inr rfl, fun _ => by show asksL f m G ≠ 0; omega, ha, by simp, by simp, by simp, .inl (by omega)⟩
  · refine ⟨?_, ?_, ?_, ?_, ?_, ?_, ?_, .inr rfl⟩ <;> simp

theorem leafB {i : Nat} {b c : Bool} {R : Ro} {M : List Hp} {h : Heap} {e0 e : List AV} {ms ks : List Nat} (hbc : b = c) (hs : Sep R M h) (he : mkOK [(i, bo c)] (fun k => e.getD k undefA) ms e0 ks some = some e) :
    ∃ sl, (sl = [(i, bo b)] ∧ Sep R M h) ∧ EnvB e0 ms ks sl e := by subst hbc; exact ⟨_, ⟨rfl, hs⟩, EnvB.of he⟩
theorem w8 (h : Heap) : Wc DD 8 [] h fun v h' => v = .sc (.bool true) ∧ h' = h := W_known rfl
theorem w3 {k r : Int} {f : UInt8} {m tx : List UInt8} {p : SV} {P : List (SV × List Int)} {h0 : Heap} (hp : NsR (intEl .i64) (Now h0) p P) (hpl : P.length ≤ 2 ^ 63 - 1) (hrl : ∀ g ∈ P, g.2.length ≤ 2 ^ 63 - 1) :
    Wc DD 3 [evA k r f m p tx] h0 fun v h' => v = bo true := by
  have hs := Sep.entry h0
  have hp1 := hp.1
  have hln := hp.ln
  have hml1 : (P.map Prod.fst).length = P.length := List.length_map _
  refine W_enter d3 ?_
  show W _ (.code m3_code [.agg [.int .i64 k, .int .i32 r, .int .u8 (f.toNat : Int), .str m, p, .str tx], undefA, undefA, undefA, undefA, undefA, undefA, undefA, undefA, undefA, undefA, undefA, undefA, undefA, undefA, undefA, undefA, undefA, undefA, undefA, undefA, undefA, undefA, undefA, undefA, undefA, undefA, undefA, undefA, undefA, undefA, undefA, undefA, undefA, undefA, undefA, undefA, undefA, undefA, undefA, undefA, undefA, undefA, undefA, undefA, undefA, undefA, undefA, undefA, undefA, undefA, undefA, undefA, undefA, undefA, undefA, undefA, undefA, undefA, undefA, undefA, undefA, undefA, undefA, undefA, undefA, undefA, undefA, undefA, undefA, undefA, undefA, undefA, undefA, undefA, undefA, undefA, undefA, undefA, undefA, undefA, undefA, undefA, undefA, undefA, undefA, undefA, undefA, undefA, undefA, undefA, undefA, undefA, undefA, undefA, undefA, undefA, undefA, undefA, undefA, undefA, undefA, undefA, undefA, undefA, undefA, undefA, undefA, undefA, undefA, undefA, undefA, undefA, undefA, undefA, undefA, undefA, undefA, undefA, undefA, undefA, undefA, undefA, undefA, undefA, undefA, undefA, undefA, undefA, undefA, undefA, undefA, undefA, undefA, undefA, undefA, undefA, undefA, undefA, undefA, undefA, undefA, undefA, undefA, undefA, undefA] _) _
  unfold m3_code
  by_cases hg : P.length ≤ 100 ∧ m.length ≤ 7000 ∧ tx.length ≤ 7000
  · obtain ⟨g1, g2, g3⟩ := hg
    repeat' (first
      | (refine K_ops ?_; first
        | refine W_fastB rfl ?_
        | refine W_nil ?_
        | (refine K_guard ?_; first
          | refine W_guard_on rfl ?_
          | (refine W_guardF rfl (fun hc => ?_) (fun hc => ?_) <;> (try rw [hc]) <;> (try simp only [decide_eq_true_eq, decide_eq_false_iff_not, beq_iff_eq, beq_eq_false_iff_ne, bne_iff_ne, bne_eq_false_iff_eq, Bool.not_eq_true', Bool.not_eq_false', Int.not_lt, Int.not_le, ne_eq, reduceCtorEq, not_true_eq_false, not_false_eq_true, Decidable.not_not] at hc) <;> (try (exfalso; omega)) <;> (try refine W_norm rfl ?_))
        )
        | (refine K_call ?_; first
          | (refine W_callsN 8 rfl (w8 _) rfl ?_; rintro _ h ⟨rfl, rfl⟩; refine W_norm rfl ?_)
        )
        | (refine W_lenL rfl (by first | assumption | exact SlR.ln (by assumption) | exact AccS.ln (by assumption) | exact OwnS.ln (by assumption) | exact VwO.ln (by assumption) | exact OwnP.ln (by assumption) | exact Len.sl) ?_; refine W_norm rfl ?_)
        | (refine K_pick ?_; first
          | refine W_pick_f rfl rfl (W_norm rfl ?_)
        )
        | (refine K_load ?_; first
          | (refine W_loadC hs 0 rfl rfl rfl ?_; refine W_norm rfl ?_)
        )
        | (refine W_boxS hs rfl rfl ?_; clear hs; intro bx _ hs; try simp only [cell_back, attr_back, List.set_cons_zero, List.set_cons_succ, List.eraseIdx_cons_succ, List.eraseIdx_zero, List.tail_cons, List.nil_append, List.cons_append] at hs; refine W_norm rfl ?_)
      )
      | (refine K_code ?_; first
        | refine W_seq ?_
        | refine W_ops ?_
        | refine W_cond_f rfl ?_
        | (refine W_cond rfl (fun hc => ?_) (fun hc => ?_) <;> (try rw [hc]) <;> (try simp only [decide_eq_true_eq, decide_eq_false_iff_not, beq_iff_eq, beq_eq_false_iff_ne, bne_iff_ne, bne_eq_false_iff_eq, Bool.not_eq_true', Bool.not_eq_false', Int.not_lt, Int.not_le, ne_eq, reduceCtorEq, not_true_eq_false, not_false_eq_true, Decidable.not_not] at hc) <;> (try (exfalso; omega)) <;> (try refine W_norm rfl ?_))
        | refine W_skip ?_
        | refine W_block ?_
      )
      | refine seqK_n ?_)
    refine W_loopB [2, 3, 26, 27, 28, 29, 30, 31, 32, 33, 34, 35, 36, 37, 38, 39] [0, 1, 2, 3, 4, 5, 6, 7, 8, 9, 10, 11, 12, 13, 14, 15, 16, 17, 18, 19, 20, 21, 22, 23, 24, 25, 26, 27, 28, 29, 30, 31, 32, 33, 34, 35, 36, 37, 38, 39, 40, 41, 42, 43, 44, 45, 46, 47, 48, 49, 50, 51, 52, 53, 54, 55, 56, 57, 58, 59, 60, 61, 62, 63, 64, 65, 66, 67, 68, 69, 70, 71, 72, 73, 74, 75, 76, 77, 78, 79, 80, 81, 82, 83, 84, 85, 86, 87, 88, 89, 90, 91, 92, 93, 94, 95, 96, 97, 98, 99, 100, 101, 102, 103, 104, 105, 106, 107, 108, 109, 110, 111, 112, 113, 114, 115, 116, 117, 118, 119, 120, 121, 122, 123, 124, 125, 126, 127, 128, 129, 130, 131, 132, 133, 134, 135, 136, 137, 138, 139, 140, 141, 142, 143, 144, 145] (fun n' sl h' => ∃ (i : Nat), sl = [(3, i64 (i : Int))] ∧ n' = P.length - i ∧ i ≤ P.length ∧ (∀ j, j < i → ((P.map Prod.snd).getD j []).length ≤ 100) ∧ Sep (Now h0) [[(bx, .cells 24 .own [.int .i64 k, .int .i32 r, .int .u8 (f.toNat : Int), .str m, p, .str tx])]] h') ?_ ?_
    · refine ⟨_, _, ⟨0, rfl, rfl, Nat.zero_le _, (fun j hj => by omega), hs⟩, EnvB.of rfl⟩
    clear hs
    rintro _ _ us _ h2 ⟨i, rfl, rfl, hi, hz, hs⟩ he
    refine W_spell he rfl ?_
    clear he
    unfold m3_l6
    by_cases hlt : i < P.length
    · have hrow := hp.row hlt
      have hrn := hrow.ln
      repeat' (first
        | (refine K_ops ?_; first
          | refine W_fastB rfl ?_
          | refine W_nil ?_
          | (refine W_lenL rfl (by first | assumption | exact SlR.ln (by assumption) | exact AccS.ln (by assumption) | exact OwnS.ln (by assumption) | exact VwO.ln (by assumption) | exact OwnP.ln (by assumption) | exact Len.sl) ?_; refine W_norm rfl ?_)
          | (refine K_bin ?_; first
            | (refine W_add rfl rfl (IntWalk.i64_in _ (by first | omega | (simp only [List.length_set, List.length_append, List.length_take, List.length_drop, List.length_replicate, List.length_cons, List.length_nil, decs_length, List.length_map]; omega))) ?_; refine W_norm rfl ?_)
          )
          | (refine K_index ?_; first
            | (refine W_indexR rfl rfl (by assumption) rfl ⟨(by first | omega | (simp only [List.length_set, List.length_append, List.length_take, List.length_drop, List.length_replicate, List.length_cons, List.length_nil, decs_length, List.length_map]; omega)), (by first | omega | (simp only [List.length_set, List.length_append, List.length_take, List.length_drop, List.length_replicate, List.length_cons, List.length_nil, decs_length, List.length_map]; omega))⟩ ?_; intro _ _ _; refine W_norm rfl ?_)
          )
          | (refine K_load ?_; first
            | (refine W_loadR hs rfl (by assumption) rfl ?_; refine W_norm rfl ?_)
            | (refine W_loadC hs 0 rfl rfl rfl ?_; refine W_norm rfl ?_)
          )
        )
        | (refine K_code ?_; first
          | refine W_seq ?_
          | refine W_ops ?_
          | (refine W_cond rfl (fun hc => ?_) (fun hc => ?_) <;> (try rw [hc]) <;> (try simp only [decide_eq_true_eq, decide_eq_false_iff_not, beq_iff_eq, beq_eq_false_iff_ne, bne_iff_ne, bne_eq_false_iff_eq, Bool.not_eq_true', Bool.not_eq_false', Int.not_lt, Int.not_le, ne_eq, reduceCtorEq, not_true_eq_false, not_false_eq_true, Decidable.not_not] at hc) <;> (try (exfalso; omega)) <;> (try refine W_norm rfl ?_))
          | refine W_skip ?_
          | refine W_ret ?_
          | refine W_block ?_
        )
        | refine seqK_n ?_
        | refine seqK_r ?_
        | refine blockK_r ?_
        | refine blockK_n ?_
        | refine invK_r ?_
        | refine invK_n ?_
        | (refine fnK_r rfl ?_; try dsimp only [gd_z, gd_s]))
      all_goals first
        | exact ⟨_, rfl, rfl⟩
        | (refine ⟨_, ?_, _, ⟨i + 1, rfl, rfl, ?_, ?_, hs⟩, EnvB.of rfl⟩
           · omega
           · omega
           · intro j hj
             rcases Nat.lt_or_ge j i with h1 | h1
             · exact hz j h1
             · obtain rfl : j = i := by omega
               omega)
        | skip
    · obtain rfl : i = P.length := by omega
      have hshort : Short P := by
        refine ⟨by omega, fun g hg => ?_⟩
        obtain ⟨j, hj, rfl⟩ := List.getElem_of_mem hg
        have := hz j hj
        rw [getD_map_snd P j .nils [], List.getD_eq_getElem?_getD, List.getElem?_eq_getElem hj] at this
        simp only [Option.getD_some] at this
        omega
      obtain ⟨x, hx⟩ : ∃ x, classL k f m (P.map Prod.snd) tx = x := ⟨_, rfl⟩
      have hfx := class_facts _ _ _ _ _ x hx
      obtain ⟨kk, nn, tt⟩ := x
      simp only [] at hfx
      obtain ⟨f1, f2, f3, f4, f5, f6, f7, f8⟩ := hfx
      repeat' (first
        | (refine K_ops ?_; first
          | refine W_fastB rfl ?_
          | refine W_nil ?_
          | (refine K_guard ?_; first
            | refine W_guard_on rfl ?_
            | refine W_guard_off rfl rfl (W_norm rfl ?_)
            | refine W_guard_u rfl (W_norm rfl ?_)
            | (refine W_guardT rfl (fun hc => ?_) (fun hc => ?_) <;> (try rw [hc]) <;> (try simp only [decide_eq_true_eq, decide_eq_false_iff_not, beq_iff_eq, beq_eq_false_iff_ne, bne_iff_ne, bne_eq_false_iff_eq, Bool.not_eq_true', Bool.not_eq_false', Int.not_lt, Int.not_le, ne_eq, reduceCtorEq, not_true_eq_false, not_false_eq_true, Decidable.not_not] at hc) <;> (try (exfalso; omega)) <;> (try refine W_norm rfl ?_))
            | (refine W_guardF rfl (fun hc => ?_) (fun hc => ?_) <;> (try rw [hc]) <;> (try simp only [decide_eq_true_eq, decide_eq_false_iff_not, beq_iff_eq, beq_eq_false_iff_ne, bne_iff_ne, bne_eq_false_iff_eq, Bool.not_eq_true', Bool.not_eq_false', Int.not_lt, Int.not_le, ne_eq, reduceCtorEq, not_true_eq_false, not_false_eq_true, Decidable.not_not] at hc) <;> (try (exfalso; omega)) <;> (try refine W_norm rfl ?_))
          )
          | (refine K_call ?_; first
            | (refine W_callsN 9 rfl (w9 (tx := tx) (hp.now hs) hshort (by omega) (fun _ => by omega)) rfl ?_; rintro _ h ⟨rfl, t⟩; rw [hx]; unfold flowC; replace hs := hs.call t; try simp only [cell_back, attr_back, List.set_cons_zero, List.set_cons_succ, List.eraseIdx_cons_succ, List.eraseIdx_zero, List.tail_cons, List.nil_append, List.cons_append] at hs; refine W_norm rfl ?_)
          )
          | (refine W_lenL rfl (by first | assumption | exact SlR.ln (by assumption) | exact AccS.ln (by assumption) | exact OwnS.ln (by assumption) | exact VwO.ln (by assumption) | exact OwnP.ln (by assumption) | exact Len.sl) ?_; refine W_norm rfl ?_)
          | (refine K_pick ?_; first
            | refine W_pick_t rfl rfl (W_norm rfl ?_)
            | refine W_pick_f rfl rfl (W_norm rfl ?_)
          )
          | (refine K_load ?_; first
            | (refine W_loadC hs 0 rfl rfl rfl ?_; refine W_norm rfl ?_)
            | (refine W_loadCA hs 0 rfl rfl rfl ?_; refine W_norm rfl ?_)
          )
          | (refine K_store ?_; first
            | (refine W_storeC hs 0 rfl rfl rfl rfl (by first | decide | assumption) rfl rfl ?_; clear hs; intro _ hs; try simp only [cell_back, attr_back, List.set_cons_zero, List.set_cons_succ, List.eraseIdx_cons_succ, List.eraseIdx_zero, List.tail_cons, List.nil_append, List.cons_append] at hs; refine W_norm rfl ?_)
          )
          | (refine W_allocS hs ?_; clear hs; intro al _ hs; try simp only [cell_back, attr_back, List.set_cons_zero, List.set_cons_succ, List.eraseIdx_cons_succ, List.eraseIdx_zero, List.tail_cons, List.nil_append, List.cons_append] at hs; refine W_norm rfl ?_)
        )
        | (refine K_code ?_; first
          | (refine W_midB (a := .seq (.ops m3_r12) _) [2, 42, 43, 44, 45, 46, 47, 48, 49, 50, 51, 52, 53, 54, 55, 56, 57, 58, 59, 60, 61, 62, 63, 64, 65, 66, 67, 68, 69, 70, 71, 72, 73, 74, 75, 76, 77, 78, 79, 80, 81, 82, 83, 84, 85, 86, 87, 88, 89] [0, 1, 2, 3, 4, 5, 6, 7, 8, 9, 10, 11, 12, 13, 14, 15, 16, 17, 18, 19, 20, 21, 22, 23, 24, 25, 26, 27, 28, 29, 30, 31, 32, 33, 34, 35, 36, 37, 38, 39, 40, 41, 42, 43, 44, 45, 46, 47, 48, 49, 50, 51, 52, 53, 54, 55, 56, 57, 58, 59, 60, 61, 62, 63, 64, 65, 66, 67, 68, 69, 70, 71, 72, 73, 74, 75, 76, 77, 78, 79, 80, 81, 82, 83, 84, 85, 86, 87, 88, 89, 90, 91, 92, 93, 94, 95, 96, 97, 98, 99, 100, 101, 102, 103, 104, 105, 106, 107, 108, 109, 110, 111, 112, 113, 114, 115, 116, 117, 118, 119, 120, 121, 122, 123, 124, 125, 126, 127, 128, 129, 130, 131, 132, 133, 134, 135, 136, 137, 138, 139, 140, 141, 142, 143, 144, 145] (fun sl h' => sl = [] ∧ Sep (Now h0) [[(al, .cells 28 .own [.int .i64 kk, .int .i64 nn, .str tt])], [(bx, .cells 24 .own [.int .i64 k, .int .i32 r, .int .u8 (f.toNat : Int), .str m, p, .str tx])]] h') ?_ ?_)
          | refine W_seq ?_
          | refine W_ops ?_
          | refine W_cond_t rfl ?_
          | (refine W_cond rfl (fun hc => ?_) (fun hc => ?_) <;> (try rw [hc]) <;> (try simp only [decide_eq_true_eq, decide_eq_false_iff_not, beq_iff_eq, beq_eq_false_iff_ne, bne_iff_ne, bne_eq_false_iff_eq, Bool.not_eq_true', Bool.not_eq_false', Int.not_lt, Int.not_le, ne_eq, reduceCtorEq, not_true_eq_false, not_false_eq_true, Decidable.not_not] at hc) <;> (try (exfalso; omega)) <;> (try refine W_norm rfl ?_))
          | refine W_skip ?_
          | refine W_ret ?_
          | refine W_exit ?_
        )
        | refine seqK_n ?_
        | refine seqK_r ?_
        | refine seqK_x ?_
        | refine blockK_e ?_
        | refine invK_x ?_
        | refine midK_n ?_
        | refine midK_r ?_
        | (refine fnK_r rfl ?_; try dsimp only [gd_z, gd_s]))
      all_goals first
        | exact ⟨_, ⟨rfl, hs⟩, EnvB.of rfl⟩
        | (exfalso; omega)
        | (exfalso; clear hs t hp hx; grind)
        | skip
      clear hs t
      rintro _ us _ h4 ⟨rfl, hs⟩ he
      refine W_spell he rfl ?_
      clear he
      by_cases hk2 : kk = 2
      · obtain ⟨rr, hrr⟩ := f7 hk2
        have hal := allP_clean rr
        have hcl := clean_twice rr
        have hcc := clean_chars rr
        rw [← hrr] at hal hcl
        have hL : (allP tt).length ≤ 32 := by rw [hal, List.length_take]; omega
        have hLc : ∀ x ∈ allP tt, ctl x = false := by
          intro x hx; rw [hal] at hx; exact (hcc x hx).2
        clear hal hcc hrr
        repeat' (first
          | (refine K_ops ?_; first
            | refine W_fastB rfl ?_
            | refine W_nil ?_
            | (refine K_call ?_; first
              | (refine W_callsN 10 rfl (w10o (s := tt) (by omega)) rfl ?_; rintro _ h ⟨u, c, rfl, hu, t⟩; replace hs := hs.call t; try simp only [cell_back, attr_back, List.set_cons_zero, List.set_cons_succ, List.eraseIdx_cons_succ, List.eraseIdx_zero, List.tail_cons, List.nil_append, List.cons_append] at hs; refine W_norm rfl ?_)
            )
            | (refine K_load ?_; first
              | (refine W_loadC hs 0 rfl rfl rfl ?_; refine W_norm rfl ?_)
            )
          )
          | (refine K_code ?_; first
            | refine W_seq ?_
            | refine W_ops ?_
            | (refine W_cond rfl (fun hc => ?_) (fun hc => ?_) <;> (try rw [hc]) <;> (try simp only [decide_eq_true_eq, decide_eq_false_iff_not, beq_iff_eq, beq_eq_false_iff_ne, bne_iff_ne, bne_eq_false_iff_eq, Bool.not_eq_true', Bool.not_eq_false', Int.not_lt, Int.not_le, ne_eq, reduceCtorEq, not_true_eq_false, not_false_eq_true, Decidable.not_not] at hc) <;> (try (exfalso; omega)) <;> (try refine W_norm rfl ?_))
            | refine W_block ?_
          )
          | refine seqK_n ?_)
        generalize allP tt = L at *
        have hln2 := hu.ln
        replace hu := hu.add (Now h0)
        replace hs := hs.freeze 0 rfl
        simp only [List.eraseIdx_zero, List.tail_cons] at hs
        clear t
        refine W_loopB [2, 6, 96, 97, 98, 99, 100, 101, 102, 103, 104, 105, 106, 107, 108, 109, 110, 111, 112, 113, 114, 115, 116, 117, 118, 119, 120] [0, 1, 2, 3, 4, 5, 6, 7, 8, 9, 10, 11, 12, 13, 14, 15, 16, 17, 18, 19, 20, 21, 22, 23, 24, 25, 26, 27, 28, 29, 30, 31, 32, 33, 34, 35, 36, 37, 38, 39, 40, 41, 42, 43, 44, 45, 46, 47, 48, 49, 50, 51, 52, 53, 54, 55, 56, 57, 58, 59, 60, 61, 62, 63, 64, 65, 66, 67, 68, 69, 70, 71, 72, 73, 74, 75, 76, 77, 78, 79, 80, 81, 82, 83, 84, 85, 86, 87, 88, 89, 90, 91, 92, 93, 94, 95, 96, 97, 98, 99, 100, 101, 102, 103, 104, 105, 106, 107, 108, 109, 110, 111, 112, 113, 114, 115, 116, 117, 118, 119, 120, 121, 122, 123, 124, 125, 126, 127, 128, 129, 130, 131, 132, 133, 134, 135, 136, 137, 138, 139, 140, 141, 142, 143, 144, 145] (fun n' sl h' => ∃ (i : Nat), sl = [(6, i64 (i : Int))] ∧ n' = L.length - i ∧ i ≤ L.length ∧ Sep ((Now h0).add c) [[(al, .cells 28 .own [.int .i64 kk, .int .i64 nn, .str tt])], [(bx, .cells 24 .own [.int .i64 k, .int .i32 r, .int .u8 (f.toNat : Int), .str m, p, .str tx])]] h') ?_ ?_
        · refine ⟨_, _, ⟨0, rfl, rfl, Nat.zero_le _, hs⟩, EnvB.of rfl⟩
        clear hs
        rintro _ _ us2 _ h6 ⟨i, rfl, rfl, hi2, hs⟩ he
        refine W_spell he rfl ?_
        clear he
        unfold m3_l17
        by_cases hlt2 : i < L.length
        · have hci := hLc _ (getD_mem (d := 0) hlt2)
          have hcx : ¬ (L.getD i 0 < 32 ∨ (127 ≤ L.getD i 0 ∧ L.getD i 0 ≤ 159)) := by unfold ctl at hci; simpa only [decide_eq_false_iff_not] using hci
          have hge : L.getD (i : Int).toNat (intEl .i32).dflt = L.getD i 0 := rfl
          repeat' (first
            | (refine K_ops ?_; first
              | refine W_fastB rfl ?_
              | refine W_nil ?_
              | (refine K_guard ?_; first
                | refine W_guard_on rfl ?_
                | refine W_guard_off rfl rfl (W_norm rfl ?_)
                | (refine W_guardT rfl (fun hc => ?_) (fun hc => ?_) <;> (try rw [hc]) <;> (try simp only [decide_eq_true_eq, decide_eq_false_iff_not, beq_iff_eq, beq_eq_false_iff_ne, bne_iff_ne, bne_eq_false_iff_eq, Bool.not_eq_true', Bool.not_eq_false', Int.not_lt, Int.not_le, ne_eq, reduceCtorEq, not_true_eq_false, not_false_eq_true, Decidable.not_not] at hc) <;> (try (exfalso; omega)) <;> (try refine W_norm rfl ?_))
                | (refine W_guardF rfl (fun hc => ?_) (fun hc => ?_) <;> (try rw [hc]) <;> (try simp only [decide_eq_true_eq, decide_eq_false_iff_not, beq_iff_eq, beq_eq_false_iff_ne, bne_iff_ne, bne_eq_false_iff_eq, Bool.not_eq_true', Bool.not_eq_false', Int.not_lt, Int.not_le, ne_eq, reduceCtorEq, not_true_eq_false, not_false_eq_true, Decidable.not_not] at hc) <;> (try (exfalso; omega)) <;> (try refine W_norm rfl ?_))
              )
              | (refine W_lenL rfl (by first | assumption | exact SlR.ln (by assumption) | exact AccS.ln (by assumption) | exact OwnS.ln (by assumption) | exact VwO.ln (by assumption) | exact OwnP.ln (by assumption) | exact Len.sl) ?_; refine W_norm rfl ?_)
              | (refine K_bin ?_; first
                | (refine W_add rfl rfl (IntWalk.i64_in _ (by first | omega | (simp only [List.length_set, List.length_append, List.length_take, List.length_drop, List.length_replicate, List.length_cons, List.length_nil, decs_length, List.length_map]; omega))) ?_; refine W_norm rfl ?_)
              )
              | (refine K_pick ?_; first
                | refine W_pick_t rfl rfl (W_norm rfl ?_)
                | refine W_pick_f rfl rfl (W_norm rfl ?_)
              )
              | (refine K_index ?_; first
                | (refine W_indexR rfl rfl (by assumption) rfl ⟨(by first | omega | (simp only [List.length_set, List.length_append, List.length_take, List.length_drop, List.length_replicate, List.length_cons, List.length_nil, decs_length, List.length_map]; omega)), (by first | omega | (simp only [List.length_set, List.length_append, List.length_take, List.length_drop, List.length_replicate, List.length_cons, List.length_nil, decs_length, List.length_map]; omega))⟩ ?_; intro _ _ _; refine W_norm rfl ?_)
              )
              | (refine K_load ?_; first
                | (refine W_loadR hs rfl (by assumption) rfl ?_; refine W_norm rfl ?_)
              )
            )
            | (refine K_code ?_; first
              | refine W_seq ?_
              | refine W_ops ?_
              | refine W_cond_f rfl ?_
              | (refine W_cond rfl (fun hc => ?_) (fun hc => ?_) <;> (try rw [hc]) <;> (try simp only [decide_eq_true_eq, decide_eq_false_iff_not, beq_iff_eq, beq_eq_false_iff_ne, bne_iff_ne, bne_eq_false_iff_eq, Bool.not_eq_true', Bool.not_eq_false', Int.not_lt, Int.not_le, ne_eq, reduceCtorEq, not_true_eq_false, not_false_eq_true, Decidable.not_not] at hc) <;> (try (exfalso; omega)) <;> (try refine W_norm rfl ?_))
              | refine W_skip ?_
              | refine W_block ?_
            )
            | refine seqK_n ?_
            | refine blockK_n ?_
            | refine invK_n ?_)
          all_goals first
            | (exfalso; omega)
            | (refine ⟨_, ?_, _, ⟨i + 1, rfl, rfl, ?_, hs⟩, EnvB.of rfl⟩ <;> omega)
            | skip
        · obtain rfl : i = L.length := by omega
          repeat' (first
            | (refine K_ops ?_; first
              | refine W_fastB rfl ?_
              | refine W_nil ?_
              | (refine W_lenL rfl (by first | assumption | exact SlR.ln (by assumption) | exact AccS.ln (by assumption) | exact OwnS.ln (by assumption) | exact VwO.ln (by assumption) | exact OwnP.ln (by assumption) | exact Len.sl) ?_; refine W_norm rfl ?_)
            )
            | (refine K_code ?_; first
              | (refine W_midB (a := .draw m3_r22) [121, 122, 123, 124, 125, 126, 127, 128, 129, 130, 131] [0, 1, 2, 3, 4, 5, 6, 7, 8, 9, 10, 11, 12, 13, 14, 15, 16, 17, 18, 19, 20, 21, 22, 23, 24, 25, 26, 27, 28, 29, 30, 31, 32, 33, 34, 35, 36, 37, 38, 39, 40, 41, 42, 43, 44, 45, 46, 47, 48, 49, 50, 51, 52, 53, 54, 55, 56, 57, 58, 59, 60, 61, 62, 63, 64, 65, 66, 67, 68, 69, 70, 71, 72, 73, 74, 75, 76, 77, 78, 79, 80, 81, 82, 83, 84, 85, 86, 87, 88, 89, 90, 91, 92, 93, 94, 95, 96, 97, 98, 99, 100, 101, 102, 103, 104, 105, 106, 107, 108, 109, 110, 111, 112, 113, 114, 115, 116, 117, 118, 119, 120, 121, 122, 123, 124, 125, 126, 127, 128, 129, 130, 131, 132, 133, 134, 135, 136, 137, 138, 139, 140, 141, 142, 143, 144, 145] (fun sl h' => sl = [(131, bo false)] ∧ Sep ((Now h0).add c) [[(al, .cells 28 .own [.int .i64 kk, .int .i64 nn, .str tt])], [(bx, .cells 24 .own [.int .i64 k, .int .i32 r, .int .u8 (f.toNat : Int), .str m, p, .str tx])]] h') ?_ ?_)
              | refine W_seq ?_
              | refine W_ops ?_
              | (refine W_cond rfl (fun hc => ?_) (fun hc => ?_) <;> (try rw [hc]) <;> (try simp only [decide_eq_true_eq, decide_eq_false_iff_not, beq_iff_eq, beq_eq_false_iff_ne, bne_iff_ne, bne_eq_false_iff_eq, Bool.not_eq_true', Bool.not_eq_false', Int.not_lt, Int.not_le, ne_eq, reduceCtorEq, not_true_eq_false, not_false_eq_true, Decidable.not_not] at hc) <;> (try (exfalso; omega)) <;> (try refine W_norm rfl ?_))
              | refine W_exit ?_
            )
            | refine seqK_n ?_
            | refine seqK_x ?_
            | refine blockK_e ?_
            | refine invK_x ?_)
          · repeat' (first
              | (refine K_ops ?_; first
                | refine W_fastB rfl ?_
                | refine W_nil ?_
                | (refine K_guard ?_; first
                  | refine W_guard_on rfl ?_
                  | (refine W_guardF rfl (fun hc => ?_) (fun hc => ?_) <;> (try rw [hc]) <;> (try simp only [decide_eq_true_eq, decide_eq_false_iff_not, beq_iff_eq, beq_eq_false_iff_ne, bne_iff_ne, bne_eq_false_iff_eq, Bool.not_eq_true', Bool.not_eq_false', Int.not_lt, Int.not_le, ne_eq, reduceCtorEq, not_true_eq_false, not_false_eq_true, Decidable.not_not] at hc) <;> (try (exfalso; omega)) <;> (try refine W_norm rfl ?_))
                )
                | (refine K_call ?_; first
                  | (refine W_callsN 11 rfl (w11 (s := tt) (by omega)) rfl ?_; rintro _ h ⟨rfl, t⟩; rw [hcl]; have hs := hs.call t; try simp only [cell_back, attr_back, List.set_cons_zero, List.set_cons_succ, List.eraseIdx_cons_succ, List.eraseIdx_zero, List.tail_cons, List.nil_append, List.cons_append] at hs; refine W_norm rfl ?_)
                )
                | (refine W_lenL rfl (by first | assumption | exact SlR.ln (by assumption) | exact AccS.ln (by assumption) | exact OwnS.ln (by assumption) | exact VwO.ln (by assumption) | exact OwnP.ln (by assumption) | exact Len.sl) ?_; refine W_norm rfl ?_)
                | (refine K_pick ?_; first
                  | refine W_pick_f rfl rfl (W_norm rfl ?_)
                )
                | (refine K_load ?_; first
                  | (refine W_loadC hs 0 rfl rfl rfl ?_; refine W_norm rfl ?_)
                )
              )
              | (refine K_code ?_; first
                | refine W_draws ?_
              )
              | refine W_dstep rfl ?_
              | refine ⟨rfl, fun rc hrec => ?_⟩
              | (refine W_dnilS (by simp only [List.reverse_cons, List.reverse_nil, List.nil_append, List.cons_append]; rfl) (by repeat' first | exact CL_nil _ _ | refine CL_skip rfl ?_ | refine CL_load (by assumption) rfl (by first | exact trivial | (repeat' first | exact trivial | refine ⟨⟨_, rfl, (by refine (congrArg (fun x => Heap.get x _) (RecIs.hh (by assumption))).trans ?_; first | rfl | exact PtR.same_get (by assumption) (by assumption) (by assumption) | exact Sep.same_get (by assumption) (by assumption) 0 0 rfl rfl | exact Sep.same_get (by assumption) (by assumption) 0 1 rfl rfl | exact Sep.same_get (by assumption) (by assumption) 0 2 rfl rfl | exact Sep.same_get (by assumption) (by assumption) 0 3 rfl rfl | exact Sep.same_get (by assumption) (by assumption) 1 0 rfl rfl | exact Sep.same_get (by assumption) (by assumption) 1 1 rfl rfl | exact Sep.same_get (by assumption) (by assumption) 1 2 rfl rfl | exact Sep.same_get (by assumption) (by assumption) 1 3 rfl rfl | exact Sep.same_get (by assumption) (by assumption) 2 0 rfl rfl | exact Sep.same_get (by assumption) (by assumption) 2 1 rfl rfl | exact Sep.same_get (by assumption) (by assumption) 2 2 rfl rfl | exact Sep.same_get (by assumption) (by assumption) 2 3 rfl rfl | exact Sep.same_get (by assumption) (by assumption) 3 0 rfl rfl | exact Sep.same_get (by assumption) (by assumption) 3 1 rfl rfl | exact Sep.same_get (by assumption) (by assumption) 3 2 rfl rfl | exact Sep.same_get (by assumption) (by assumption) 3 3 rfl rfl)⟩, ?_⟩)) (by first | exact trivial | (repeat' first | exact trivial | refine ⟨⟨_, rfl, (by refine (congrArg (fun x => Heap.get x _) (RecIs.hh' (by assumption))).trans ?_; first | rfl | exact PtR.same_get (by assumption) (by assumption) (by assumption) | exact Sep.same_get (by assumption) (by assumption) 0 0 rfl rfl | exact Sep.same_get (by assumption) (by assumption) 0 1 rfl rfl | exact Sep.same_get (by assumption) (by assumption) 0 2 rfl rfl | exact Sep.same_get (by assumption) (by assumption) 0 3 rfl rfl | exact Sep.same_get (by assumption) (by assumption) 1 0 rfl rfl | exact Sep.same_get (by assumption) (by assumption) 1 1 rfl rfl | exact Sep.same_get (by assumption) (by assumption) 1 2 rfl rfl | exact Sep.same_get (by assumption) (by assumption) 1 3 rfl rfl | exact Sep.same_get (by assumption) (by assumption) 2 0 rfl rfl | exact Sep.same_get (by assumption) (by assumption) 2 1 rfl rfl | exact Sep.same_get (by assumption) (by assumption) 2 2 rfl rfl | exact Sep.same_get (by assumption) (by assumption) 2 3 rfl rfl | exact Sep.same_get (by assumption) (by assumption) 3 0 rfl rfl | exact Sep.same_get (by assumption) (by assumption) 3 1 rfl rfl | exact Sep.same_get (by assumption) (by assumption) 3 2 rfl rfl | exact Sep.same_get (by assumption) (by assumption) 3 3 rfl rfl)⟩, ?_⟩)) ?_) ?_)
              | refine midK_n ?_)
            all_goals first
              | (exfalso; omega)
              | exact leafB (by simp) hs rfl
              | skip
          clear hs
          rintro _ us3 _ h7 ⟨rfl, hs⟩ he
          refine W_spell he rfl ?_
          clear he
          repeat' (first
            | (refine K_ops ?_; first
              | refine W_fastB rfl ?_
              | refine W_nil ?_
              | (refine K_guard ?_; first
                | refine W_guard_on rfl ?_
                | refine W_guard_off rfl rfl (W_norm rfl ?_)
                | (refine W_guardT rfl (fun hc => ?_) (fun hc => ?_) <;> (try rw [hc]) <;> (try simp only [decide_eq_true_eq, decide_eq_false_iff_not, beq_iff_eq, beq_eq_false_iff_ne, bne_iff_ne, bne_eq_false_iff_eq, Bool.not_eq_true', Bool.not_eq_false', Int.not_lt, Int.not_le, ne_eq, reduceCtorEq, not_true_eq_false, not_false_eq_true, Decidable.not_not] at hc) <;> (try (exfalso; omega)) <;> (try refine W_norm rfl ?_))
                | (refine W_guardF rfl (fun hc => ?_) (fun hc => ?_) <;> (try rw [hc]) <;> (try simp only [decide_eq_true_eq, decide_eq_false_iff_not, beq_iff_eq, beq_eq_false_iff_ne, bne_iff_ne, bne_eq_false_iff_eq, Bool.not_eq_true', Bool.not_eq_false', Int.not_lt, Int.not_le, ne_eq, reduceCtorEq, not_true_eq_false, not_false_eq_true, Decidable.not_not] at hc) <;> (try (exfalso; omega)) <;> (try refine W_norm rfl ?_))
              )
              | (refine K_pick ?_; first
                | refine W_pick_t rfl rfl (W_norm rfl ?_)
              )
              | (refine K_load ?_; first
                | (refine W_loadC hs 1 rfl rfl rfl ?_; refine W_norm rfl ?_)
              )
            )
            | (refine K_code ?_; first
              | refine W_seq ?_
              | refine W_ops ?_
              | refine W_cond_f rfl ?_
              | refine W_skip ?_
              | refine W_ret ?_
            )
            | refine seqK_n ?_
            | (refine fnK_r rfl ?_; try dsimp only [gd_z, gd_s]))
          all_goals first | exact ⟨_, rfl, rfl⟩ | (exfalso; omega) | exact ⟨_, rfl, congrArg bo (by rw [beq_iff_eq]; omega)⟩ | skip
      · repeat' (first
          | (refine K_ops ?_; first
            | refine W_fastB rfl ?_
            | refine W_nil ?_
            | (refine K_guard ?_; first
              | refine W_guard_on rfl ?_
              | refine W_guard_off rfl rfl (W_norm rfl ?_)
              | (refine W_guardT rfl (fun hc => ?_) (fun hc => ?_) <;> (try rw [hc]) <;> (try simp only [decide_eq_true_eq, decide_eq_false_iff_not, beq_iff_eq, beq_eq_false_iff_ne, bne_iff_ne, bne_eq_false_iff_eq, Bool.not_eq_true', Bool.not_eq_false', Int.not_lt, Int.not_le, ne_eq, reduceCtorEq, not_true_eq_false, not_false_eq_true, Decidable.not_not] at hc) <;> (try (exfalso; omega)) <;> (try refine W_norm rfl ?_))
              | (refine W_guardF rfl (fun hc => ?_) (fun hc => ?_) <;> (try rw [hc]) <;> (try simp only [decide_eq_true_eq, decide_eq_false_iff_not, beq_iff_eq, beq_eq_false_iff_ne, bne_iff_ne, bne_eq_false_iff_eq, Bool.not_eq_true', Bool.not_eq_false', Int.not_lt, Int.not_le, ne_eq, reduceCtorEq, not_true_eq_false, not_false_eq_true, Decidable.not_not] at hc) <;> (try (exfalso; omega)) <;> (try refine W_norm rfl ?_))
            )
            | (refine K_pick ?_; first
              | refine W_pick_t rfl rfl (W_norm rfl ?_)
              | refine W_pick_f rfl rfl (W_norm rfl ?_)
            )
            | (refine K_load ?_; first
              | (refine W_loadC hs 0 rfl rfl rfl ?_; refine W_norm rfl ?_)
              | (refine W_loadC hs 1 rfl rfl rfl ?_; refine W_norm rfl ?_)
            )
          )
          | (refine K_code ?_; first
            | refine W_seq ?_
            | refine W_ops ?_
            | (refine W_cond rfl (fun hc => ?_) (fun hc => ?_) <;> (try rw [hc]) <;> (try simp only [decide_eq_true_eq, decide_eq_false_iff_not, beq_iff_eq, beq_eq_false_iff_ne, bne_iff_ne, bne_eq_false_iff_eq, Bool.not_eq_true', Bool.not_eq_false', Int.not_lt, Int.not_le, ne_eq, reduceCtorEq, not_true_eq_false, not_false_eq_true, Decidable.not_not] at hc) <;> (try (exfalso; omega)) <;> (try refine W_norm rfl ?_))
            | refine W_skip ?_
            | refine W_ret ?_
          )
          | refine seqK_n ?_
          | (refine fnK_r rfl ?_; try dsimp only [gd_z, gd_s]))
        all_goals first | exact ⟨_, rfl, rfl⟩ | (exfalso; omega) | exact ⟨_, rfl, congrArg bo (by rw [beq_iff_eq]; omega)⟩ | skip
  · repeat' (first
      | (refine K_ops ?_; first
        | refine W_fastB rfl ?_
        | refine W_nil ?_
        | (refine K_guard ?_; first
          | refine W_guard_on rfl ?_
          | refine W_guard_off rfl rfl (W_norm rfl ?_)
          | (refine W_guardF rfl (fun hc => ?_) (fun hc => ?_) <;> (try rw [hc]) <;> (try simp only [decide_eq_true_eq, decide_eq_false_iff_not, beq_iff_eq, beq_eq_false_iff_ne, bne_iff_ne, bne_eq_false_iff_eq, Bool.not_eq_true', Bool.not_eq_false', Int.not_lt, Int.not_le, ne_eq, reduceCtorEq, not_true_eq_false, not_false_eq_true, Decidable.not_not] at hc) <;> (try (exfalso; omega)) <;> (try refine W_norm rfl ?_))
        )
        | (refine K_call ?_; first
          | (refine W_callsN 8 rfl (w8 _) rfl ?_; rintro _ h ⟨rfl, rfl⟩; refine W_norm rfl ?_)
        )
        | (refine W_lenL rfl (by first | assumption | exact SlR.ln (by assumption) | exact AccS.ln (by assumption) | exact OwnS.ln (by assumption) | exact VwO.ln (by assumption) | exact OwnP.ln (by assumption) | exact Len.sl) ?_; refine W_norm rfl ?_)
        | (refine K_pick ?_; first
          | refine W_pick_t rfl rfl (W_norm rfl ?_)
          | refine W_pick_f rfl rfl (W_norm rfl ?_)
        )
        | (refine K_load ?_; first
          | (refine W_loadC hs 0 rfl rfl rfl ?_; refine W_norm rfl ?_)
        )
        | (refine W_boxS hs rfl rfl ?_; clear hs; intro bx _ hs; try simp only [cell_back, attr_back, List.set_cons_zero, List.set_cons_succ, List.eraseIdx_cons_succ, List.eraseIdx_zero, List.tail_cons, List.nil_append, List.cons_append] at hs; refine W_norm rfl ?_)
      )
      | (refine K_code ?_; first
        | refine W_seq ?_
        | refine W_ops ?_
        | refine W_cond_t rfl ?_
        | refine W_cond_f rfl ?_
        | (refine W_cond rfl (fun hc => ?_) (fun hc => ?_) <;> (try rw [hc]) <;> (try simp only [decide_eq_true_eq, decide_eq_false_iff_not, beq_iff_eq, beq_eq_false_iff_ne, bne_iff_ne, bne_eq_false_iff_eq, Bool.not_eq_true', Bool.not_eq_false', Int.not_lt, Int.not_le, ne_eq, reduceCtorEq, not_true_eq_false, not_false_eq_true, Decidable.not_not] at hc) <;> (try (exfalso; omega)) <;> (try refine W_norm rfl ?_))
        | refine W_skip ?_
        | refine W_ret ?_
      )
      | refine seqK_n ?_
      | refine seqK_r ?_
      | (refine fnK_r rfl ?_; try dsimp only [gd_z, gd_s]))
    all_goals first | exact ⟨_, rfl, rfl⟩ | (exfalso; exact hg ⟨by omega, by omega, by omega⟩)
theorem ev_of {H : Heap} {avs : List AV} (ho : OpenA H [(true, [.int .i64, .int .i32, .int .u8, .str, .slice 26 1 [.slice 3 1 [.int .i64]], .str])] avs) :
    ∃ k r f m p tx P, avs = [evA k r f m p tx] ∧ NsR (intEl .i64) (Now H) p P ∧ P.length ≤ 2 ^ 63 - 1 ∧ (∀ g ∈ P, g.2.length ≤ 2 ^ 63 - 1) := by
  simp only [OpenA] at ho
  obtain ⟨svs, l', rfl, ho, rfl⟩ := ho
  simp only [OpenL] at ho
  obtain ⟨_, _, rfl, o1, _, _, rfl, o2, _, _, rfl, o3, _, _, rfl, o4, _, _, rfl, o5, _, _, rfl, o6, rfl⟩ := ho
  obtain ⟨P, h1, _, h2, h3⟩ := OpenS.ns (E := intEl .i64) (P := fun _ => True) o5 rfl (fun l o => by
    simp only [OpenL, OpenS] at o
    obtain ⟨_, _, rfl, ⟨x, rfl, _⟩, rfl⟩ := o
    exact ⟨x, rfl, trivial⟩)
  simp only [OpenS] at o1 o2 o3 o4 o6
  obtain ⟨k, rfl, _⟩ := o1
  obtain ⟨r, rfl, _⟩ := o2
  obtain ⟨f, rfl, hf1, hf2⟩ := o3
  obtain ⟨m, rfl, _⟩ := o4
  obtain ⟨tx, rfl, _⟩ := o6
  have hf : f = ((UInt8.ofNat f.toNat).toNat : Int) := by
    have h1 : 0 ≤ f ∧ f ≤ 255 := ⟨hf1, hf2⟩
    rw [UInt8.toNat_ofNat']; omega
  rw [hf]
  exact ⟨k, r, _, m, _, tx, P, rfl, h1, h2, h3⟩
theorem walk_gateNarrow (H : Heap) (avs : List AV) (hwf : H.l.length = H.n) (hs : Sub (HL Tryd.prog.globals.size jxLs) H) (ho : OpenA H [(true, [.int .i64, .int .i32, .int .u8, .str, .slice 26 1 [.slice 3 1 [.int .i64]], .str])] avs) : W DD (.call 3 avs H) (fun _ vs _ => vs = [.sc (.bool true)]) := by
  obtain ⟨k, r, f, m, p, tx, P, rfl, h1, h2, h3⟩ := ev_of ho
  exact (w3 h1 h2 h3).mono fun _ _ _ ⟨v, hv, h4⟩ => by rw [hv, h4]
end Go.Proofs.YtggkbkbhegcbkaaDoor
