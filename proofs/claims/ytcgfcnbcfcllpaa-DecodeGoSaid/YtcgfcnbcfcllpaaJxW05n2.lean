/- Go's own loop over a text, and the reader: step by step. -/
import Derived.Test.YtcgfcnbcfcllpaaJxW05m
set_option linter.unusedSimpArgs false
set_option linter.unusedVariables false
set_option maxHeartbeats 2000000
set_option maxRecDepth 100000
namespace Go.Proofs.Ytcgfcnbcfcllpaa
open Go Go.Jx

theorem take2 {s : List UInt8} {i : Nat} (h : i + 1 < s.length) : s.take (i + 2) = s.take i ++ [s.getD i 0, s.getD (i + 1) 0] := by
  rw [List.take_add_one, List.take_add_one, getD_get? (d := 0) (by omega), getD_get? (d := 0) h]; simp
theorem take3 {s : List UInt8} {i : Nat} (h : i + 2 < s.length) : s.take (i + 3) = s.take i ++ [s.getD i 0, s.getD (i + 1) 0, s.getD (i + 2) 0] := by
  rw [List.take_add_one, take2 (by omega), getD_get? (d := 0) h]; simp
theorem take4 {s : List UInt8} {i : Nat} (h : i + 3 < s.length) : s.take (i + 4) = s.take i ++ [s.getD i 0, s.getD (i + 1) 0, s.getD (i + 2) 0, s.getD (i + 3) 0] := by
  rw [List.take_add_one, take3 (by omega), getD_get? (d := 0) h]; simp
theorem byte_on {k l lo hi x b : Int} (h1 : 0 < k) (h2 : lo ≤ b) (h3 : b ≤ hi) : byteL ⟨k, l, lo, hi, x⟩ b = if l - 1 = 0 then (dec0, [x * 64 + b % 64]) else (⟨k + 1, l - 1, 128, 191, x * 64 + b % 64⟩, []) := by
  unfold byteL
  rw [if_pos ⟨h1, h2, h3⟩]

/-- A character that is read whole is told, behind what was kept. -/
theorem run_char {s : List UInt8} {i : Nat} (hi : i < s.length) {c n : Nat} (hd : decL s i = (c, n)) (hok : c ≠ 65533 ∨ n ≠ 1) :
    i + n ≤ s.length ∧ 1 ≤ n ∧ ∀ (d : Dec) (q : List Int), Same d q → runP d ((s.drop i).take n) = (dec0, (if d.kept = 0 then [] else [65533]) ++ [(c : Int)]) := by
  have ht : ∀ n, i + n ≤ s.length → s.take (i + n) = s.take i ++ (s.drop i).take n := fun n _ => List.take_add
  have hcut : ∀ (n : Nat) (L : List UInt8), i + n ≤ s.length → s.take (i + n) = s.take i ++ L → (s.drop i).take n = L := by
    intro n L h1 h2
    rw [ht n h1] at h2
    exact List.append_cancel_left h2
  rcases dec_cases s i hi with h | ⟨b0, e0, k0, h⟩ | ⟨b0, b1, e0, e1, kl, k0, k1, k2, h⟩ | ⟨b0, b1, b2, e0, e1, e2, kl, k0, k1, k2, k3, k4, k5, h⟩ | ⟨b0, b1, b2, b3, e0, e1, e2, e3, kl, k0, k1, k2, k3, k4, k5, k6, h⟩
  · rw [h] at hd; cases hd; rcases hok with h | h <;> exact absurd rfl h
  · rw [h] at hd; cases hd
    refine ⟨by omega, Nat.le_refl _, fun d q hs => ?_⟩
    rw [hcut 1 [s.getD i 0] (by omega) (by rw [List.take_add_one, getD_get? (d := 0) hi]; rfl)]
    have hb : beginsL (c : Int) = (0, 0, 0, (c : Int)) := by unfold beginsL; rw [if_pos (by omega)]
    simp only [runP, ← e0]
    rw [byte_first hs (.inl (by omega))]
    have hf : firstL dec0 (c : Int) = (dec0, [(c : Int)]) := by unfold firstL; rw [hb]; simp
    rw [hf]; simp
  · rw [h] at hd; cases hd
    refine ⟨by omega, by omega, fun d q hs => ?_⟩
    rw [hcut 2 _ (by omega) (take2 kl)]
    have hb : beginsL (b0 : Int) = (1, 128, 191, (b0 : Int) % 32) := by unfold beginsL; rw [if_neg (by omega), if_neg (by omega), if_pos (by omega)]
    simp only [runP, ← e0, ← e1]
    rw [byte_first hs (.inr (by omega))]
    have hf : firstL dec0 (b0 : Int) = (⟨1, 1, 128, 191, (b0 : Int) % 32⟩, []) := by unfold firstL; rw [hb]; simp
    rw [hf]
    simp only []
    rw [byte_on (b := (b1 : Int)) (by omega) (by omega) (by omega), if_pos (by omega)]
    simp only [List.append_nil, List.nil_append, Prod.mk.injEq, true_and, List.append_cancel_left_eq, List.cons.injEq, and_true]
    omega
  · rw [h] at hd; cases hd
    refine ⟨by omega, by omega, fun d q hs => ?_⟩
    rw [hcut 3 _ (by omega) (take3 kl)]
    simp only [runP, ← e0, ← e1, ← e2]
    rw [byte_first hs (.inr (by omega))]
    have hbl := range6 (b := (b0 : Int)) ⟨by omega, by omega⟩
    have hf : ∃ lo hi, firstL dec0 (b0 : Int) = (⟨1, 2, lo, hi, (b0 : Int) % 16⟩, []) ∧ lo ≤ (b1 : Int) ∧ (b1 : Int) ≤ hi := by
      rcases hbl with ⟨h, e⟩ | ⟨h, e⟩ | ⟨h, e⟩ | ⟨h, h', h'', e⟩ | ⟨h, e⟩ | ⟨h, e⟩ | ⟨h, h', e⟩
      · omega
      · exact ⟨160, 191, by unfold firstL; rw [e, h]; simp, by omega, by omega⟩
      · exact ⟨128, 159, by unfold firstL; rw [e, h]; simp, by omega, by omega⟩
      · exact ⟨128, 191, by unfold firstL; rw [e]; simp, by omega, by omega⟩
      · omega
      · omega
      · omega
    obtain ⟨lo, hi', hf, l1, l2⟩ := hf
    rw [hf]
    simp only []
    rw [byte_on (b := (b1 : Int)) (by omega) l1 l2, if_neg (by omega)]
    simp only []
    rw [byte_on (b := (b2 : Int)) (by omega) (by omega) (by omega), if_pos (by omega)]
    simp only [List.append_nil, List.nil_append, Prod.mk.injEq, true_and, List.append_cancel_left_eq, List.cons.injEq, and_true]
    omega
  · rw [h] at hd; cases hd
    refine ⟨by omega, by omega, fun d q hs => ?_⟩
    rw [hcut 4 _ (by omega) (take4 kl)]
    simp only [runP, ← e0, ← e1, ← e2, ← e3]
    rw [byte_first hs (.inr (by omega))]
    have hbl := range6 (b := (b0 : Int)) ⟨by omega, by omega⟩
    have hf : ∃ lo hi, firstL dec0 (b0 : Int) = (⟨1, 3, lo, hi, (b0 : Int) % 8⟩, []) ∧ lo ≤ (b1 : Int) ∧ (b1 : Int) ≤ hi := by
      rcases hbl with ⟨h, e⟩ | ⟨h, e⟩ | ⟨h, e⟩ | ⟨h, h', h'', e⟩ | ⟨h, e⟩ | ⟨h, e⟩ | ⟨h, h', e⟩
      · omega
      · omega
      · omega
      · omega
      · exact ⟨144, 191, by unfold firstL; rw [e, h]; simp, by omega, by omega⟩
      · exact ⟨128, 143, by unfold firstL; rw [e, h]; simp, by omega, by omega⟩
      · exact ⟨128, 191, by unfold firstL; rw [e]; simp, by omega, by omega⟩
    obtain ⟨lo, hi', hf, l1, l2⟩ := hf
    rw [hf]
    simp only []
    rw [byte_on (b := (b1 : Int)) (by omega) l1 l2, if_neg (by omega)]
    simp only []
    rw [byte_on (b := (b2 : Int)) (by omega) (by omega) (by omega), if_neg (by omega)]
    simp only []
    rw [byte_on (b := (b3 : Int)) (by omega) (by omega) (by omega), if_pos (by omega)]
    simp only [List.append_nil, List.nil_append, Prod.mk.injEq, true_and, List.append_cancel_left_eq, List.cons.injEq, and_true]
    omega
theorem dec_err {s : List UInt8} {i : Nat} (hi : i < s.length) {c n : Nat} (hd : decL s i = (c, n)) : 1 ≤ n ∧ i + n ≤ s.length := by
  by_cases hok : c ≠ 65533 ∨ n ≠ 1
  · have := run_char hi hd hok; omega
  · obtain rfl : n = 1 := by
      rcases Nat.decEq n 1 with h | h
      · exact absurd (.inr h) hok
      · exact h
    omega

/-- How the reader stands to Go's loop, at each place of the loop. -/
structure GoAt (s : List UInt8) (p : Nat) (ok : Bool) (Z : List Int) : Prop where
  le : p ≤ s.length
  few : (runP dec0 (s.take p)).2.length + phi (runP dec0 (s.take p)).1 ≤ Z.length
  same : ok = true → runP dec0 (s.take p) = (dec0, Z)
theorem GoAt.zero (s : List UInt8) : GoAt s 0 true [] := ⟨Nat.zero_le _, by simp [runP, phi, dec0], fun _ => rfl⟩
/-- Is a character that is read the one for no character, without being it? -/
def badAt (s : List UInt8) (i c : Nat) : Prop := c = 65533 ∧ (s.length < i + 3 ∨ (s.take (i + 3)).drop i ≠ [239, 191, 189])
theorem GoAt.step {s : List UInt8} {p : Nat} {ok : Bool} {Z : List Int} (g : GoAt s p ok Z) (hp : p < s.length) {c n : Nat} (hd : decL s p = (c, n)) {ok' : Bool} (hok' : ok' = true → ok = true ∧ ¬ badAt s p c) : GoAt s (p + n) ok' (Z ++ [(c : Int)]) := by
  obtain ⟨h1, h2⟩ := dec_err hp hd
  have hs := (runB_same (s.take p)).1
  have hsplit : s.take (p + n) = s.take p ++ (s.drop p).take n := List.take_add
  by_cases hgood : c ≠ 65533 ∨ n ≠ 1
  · obtain ⟨_, _, h3⟩ := run_char hp hd hgood
    have h4 := h3 _ _ hs
    have h5 : runP dec0 (s.take (p + n)) = (dec0, (runP dec0 (s.take p)).2 ++ ((if (runP dec0 (s.take p)).1.kept = 0 then [] else [65533]) ++ [(c : Int)])) := by
      rw [hsplit, runP_append, h4]
    refine ⟨h2, ?_, fun hh => ?_⟩
    · rw [h5]
      have := g.few
      unfold phi at this
      simp only [List.length_append, List.length_cons, List.length_nil, phi]
      rw [if_pos (show dec0.kept = 0 from rfl)]
      split at this <;> simp_all <;> omega
    · obtain ⟨h6, _⟩ := hok' hh
      have h7 := g.same h6
      rw [h5, h7]
      simp [dec0]
  · have hc : c = 65533 := Classical.byContradiction fun h => hgood (.inl h)
    have hn : n = 1 := Classical.byContradiction fun h => hgood (.inr h)
    subst hc; subst hn
    refine ⟨h2, ?_, fun hh => ?_⟩
    · rw [runP_take hp]
      have hk := (run_ok (s.take p)).1
      have := byte_phi (runP dec0 (s.take p)).1 ((s.getD p 0).toNat : Int) hk
      have := g.few
      simp only [List.length_append, List.length_cons, List.length_nil]
      omega
    · exfalso
      obtain ⟨_, h6⟩ := hok' hh
      have h7 : p + 3 ≤ s.length ∧ (s.take (p + 3)).drop p = [239, 191, 189] := by
        constructor
        · exact Nat.le_of_not_lt fun k => h6 ⟨rfl, .inl k⟩
        · exact Classical.byContradiction fun k => h6 ⟨rfl, .inr k⟩
      obtain ⟨h8, h9⟩ := h7
      rw [take3 (by omega), List.drop_left' (by rw [List.length_take]; omega)] at h9
      simp only [List.cons.injEq, and_true] at h9
      obtain ⟨q0, q1, q2⟩ := h9
      rcases dec_cases s p hp with h | ⟨b0, e0, k0, h⟩ | ⟨b0, b1, e0, e1, kl, k0, k1, k2, h⟩ | ⟨b0, b1, b2, e0, e1, e2, kl, k0, k1, k2, k3, k4, k5, h⟩ | ⟨b0, b1, b2, b3, e0, e1, e2, e3, kl, k0, k1, k2, k3, k4, k5, k6, h⟩
      · have hsz : (ByteArray.size ⟨s.toArray⟩) = s.length := by show s.toArray.size = _; simp
        have : decL s p = (65533, 3) := by
          unfold decL Utf8.decode
          simp only [hsz, Nat.add_zero, get_byte s p hp, get_byte s (p + 1) (by omega), get_byte s (p + 2) (by omega), q0, q1, q2]
          rw [decide_eq_true (show p + 1 < s.length by omega), decide_eq_true (show p + 2 < s.length by omega)]
          rfl
        rw [this] at hd; simp at hd
      · rw [q0] at e0; simp at e0; omega
      · rw [q0] at e0; simp at e0; omega
      · rw [h] at hd; simp at hd
      · rw [q0] at e0; simp at e0; omega
/-- At the end. -/
theorem GoAt.done {s : List UInt8} {ok : Bool} {Z : List Int} (g : GoAt s s.length ok Z) : (ok = true → allP s = Z) ∧ (allP s).length ≤ Z.length ∧ (0 < s.length → 0 < (allP s).length) := by
  have hf := g.few
  have hsm := g.same
  rw [List.take_length] at hf hsm
  have hb := runP_bounds s dec0 [] same0
  have hk := (run_ok s).2.1
  have hk0 := (run_ok s).1
  have hd0 : dec0.kept = 0 := rfl
  refine ⟨fun h => ?_, ?_, fun h => ?_⟩
  · unfold allP tailP
    rw [hsm h]; simp [dec0]
  · unfold allP tailP
    unfold phi at hf
    rw [List.length_append]
    split at hf <;> simp_all
  · unfold allP tailP
    rw [List.length_append]
    split
    · simp only [List.length_nil]; omega
    · simp
end Go.Proofs.Ytcgfcnbcfcllpaa
