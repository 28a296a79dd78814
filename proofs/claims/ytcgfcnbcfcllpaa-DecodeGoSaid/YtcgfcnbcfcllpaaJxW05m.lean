/- Go's own loop over a text, and the reader: plainly. -/
import Derived.Test.YtcgfcnbcfcllpaaJxW05j
set_option linter.unusedSimpArgs false
set_option linter.unusedVariables false
set_option maxHeartbeats 2000000
set_option maxRecDepth 100000
namespace Go.Proofs.Ytcgfcnbcfcllpaa
open Go Go.Jx

/-- One, if something is kept. -/
def phi (d : Dec) : Nat := if d.kept = 0 then 0 else 1
theorem first_phi (d : Dec) (b : Int) (hd : d.kept = 0) : (firstL d b).2.length + phi (firstL d b).1 ≤ 1 := by
  unfold firstL
  split
  · simp [phi, hd]
  split
  · simp [phi, hd]
  · simp [phi]
theorem byte_phi (d : Dec) (b : Int) (hk : 0 ≤ d.kept) : (byteL d b).2.length + phi (byteL d b).1 ≤ 1 + phi d := by
  unfold byteL
  split
  · rename_i h
    have hp : phi d = 1 := by unfold phi; rw [if_neg (by omega)]
    split
    · simp [phi, dec0]
    · rw [hp]; unfold phi; split <;> simp
  · split
    · rename_i h1 h2
      have hp : phi d = 1 := by unfold phi; rw [if_neg (by omega)]
      have := first_phi dec0 b rfl
      simp only [List.length_cons]; omega
    · have := first_phi d b (by omega)
      omega
/-- A byte that does not go on. -/
theorem byte_first {d : Dec} {s : List Int} (h : Same d s) {b : Int} (hb : b < 128 ∨ 191 < b) : byteL d b = ((firstL dec0 b).1, (if d.kept = 0 then [] else [65533]) ++ (firstL dec0 b).2) := by
  have hr : d = dec0 ∨ (0 < d.kept ∧ 128 ≤ d.low ∧ d.high ≤ 191) := by
    rcases h with ⟨rfl, rfl⟩ | ⟨b0, rfl, h1, h2, rfl⟩ | ⟨b0, b1, rfl, h1, h2, h3, h4, rfl⟩ | ⟨b0, b1, b2, rfl, h1, h2, h3, h4, h5, h6, rfl⟩
    · exact .inl rfl
    all_goals
      right
      rcases range6 (b := b0) (by omega) with ⟨h, e⟩ | ⟨h, e⟩ | ⟨h, e⟩ | ⟨h, h', h'', e⟩ | ⟨h, e⟩ | ⟨h, e⟩ | ⟨h, h', e⟩ <;> rw [e] <;> simp
  rcases hr with rfl | ⟨h1, h2, h3⟩
  · unfold byteL
    rw [if_neg (by simp [dec0]), if_neg (by simp [dec0])]; rfl
  · unfold byteL
    rw [if_neg (by rintro ⟨_, _, _⟩; omega), if_pos h1, if_neg (by omega)]; rfl

def decL (s : List UInt8) (i : Nat) : Nat × Nat := Utf8.decode ⟨s.toArray⟩ i
theorem get_byte (s : List UInt8) (k : Nat) (h : k < s.length) : (ByteArray.get! ⟨s.toArray⟩ k) = s.getD k 0 := by
  show s.toArray[k]! = _
  rw [List.getD_eq_getElem?_getD, List.getElem?_eq_getElem h]
  simp [h]
/-- What is read at a place: bytes that are one character, or one byte that is none. -/
theorem dec_cases (s : List UInt8) (i : Nat) (hi : i < s.length) :
    (decL s i = (65533, 1)) ∨
    (∃ b0, b0 = (s.getD i 0).toNat ∧ b0 < 128 ∧ decL s i = (b0, 1)) ∨
    (∃ b0 b1, b0 = (s.getD i 0).toNat ∧ b1 = (s.getD (i + 1) 0).toNat ∧ i + 1 < s.length ∧ 194 ≤ b0 ∧ b0 < 224 ∧ b1 / 64 = 2 ∧ decL s i = ((b0 % 32) * 64 + b1 % 64, 2)) ∨
    (∃ b0 b1 b2, b0 = (s.getD i 0).toNat ∧ b1 = (s.getD (i + 1) 0).toNat ∧ b2 = (s.getD (i + 2) 0).toNat ∧ i + 2 < s.length ∧ 224 ≤ b0 ∧ b0 < 240 ∧ b1 / 64 = 2 ∧ b2 / 64 = 2 ∧ (b0 = 224 → 160 ≤ b1) ∧ (b0 = 237 → b1 ≤ 159) ∧ decL s i = ((b0 % 16) * 4096 + (b1 % 64) * 64 + b2 % 64, 3)) ∨
    (∃ b0 b1 b2 b3, b0 = (s.getD i 0).toNat ∧ b1 = (s.getD (i + 1) 0).toNat ∧ b2 = (s.getD (i + 2) 0).toNat ∧ b3 = (s.getD (i + 3) 0).toNat ∧ i + 3 < s.length ∧ 240 ≤ b0 ∧ b0 ≤ 244 ∧ b1 / 64 = 2 ∧ b2 / 64 = 2 ∧ b3 / 64 = 2 ∧ (b0 = 240 → 144 ≤ b1) ∧ (b0 = 244 → b1 ≤ 143) ∧ decL s i = ((b0 % 8) * 262144 + (b1 % 64) * 4096 + (b2 % 64) * 64 + b3 % 64, 4)) := by
  have hsz : (ByteArray.size ⟨s.toArray⟩) = s.length := by show s.toArray.size = _; simp
  have g0 := get_byte s i hi
  unfold decL Utf8.decode
  simp only [hsz, Nat.add_zero, g0]
  generalize hb0 : (s.getD i 0).toNat = b0
  have hb0' : b0 < 256 := by rw [← hb0]; exact (s.getD i 0).toNat_lt
  by_cases c0 : b0 < 128
  · rw [if_pos c0]; exact .inr (.inl ⟨b0, rfl, c0, rfl⟩)
  rw [if_neg c0]
  by_cases c1 : i + 1 < s.length
  · have g1 := get_byte s (i + 1) c1
    simp only [g1, c1, decide_true, Bool.true_and]
    generalize hb1 : (s.getD (i + 1) 0).toNat = b1
    have hb1' : b1 < 256 := by rw [← hb1]; exact (s.getD (i + 1) 0).toNat_lt
    by_cases d1 : b0 / 32 = 6 ∧ b1 / 64 = 2
    · rw [if_pos (by simp [d1.1, d1.2])]
      split
      · rename_i h
        exact .inr (.inr (.inl ⟨b0, b1, rfl, rfl, trivial, by omega, by omega, d1.2, rfl⟩))
      · exact .inl rfl
    · rw [if_neg (by simpa using d1)]
      by_cases c2 : i + 2 < s.length
      · have g2 := get_byte s (i + 2) c2
        simp only [g2, c2, decide_true, Bool.true_and]
        generalize hb2 : (s.getD (i + 2) 0).toNat = b2
        have hb2' : b2 < 256 := by rw [← hb2]; exact (s.getD (i + 2) 0).toNat_lt
        by_cases d2 : b0 / 16 = 14 ∧ b1 / 64 = 2 ∧ b2 / 64 = 2
        · rw [if_pos (by simp [d2.1, d2.2.1, d2.2.2])]
          split
          · rename_i h
            simp only [ge_iff_le, Bool.and_eq_true, decide_eq_true_eq, Utf8.valid, Bool.or_eq_true] at h
            exact .inr (.inr (.inr (.inl ⟨b0, b1, b2, rfl, rfl, rfl, trivial, by omega, by omega, d2.2.1, d2.2.2, by omega, by omega, rfl⟩)))
          · exact .inl rfl
        · rw [if_neg (by simpa [and_assoc] using d2)]
          by_cases c3 : i + 3 < s.length
          · have g3 := get_byte s (i + 3) c3
            simp only [g3, c3, decide_true, Bool.true_and]
            generalize hb3 : (s.getD (i + 3) 0).toNat = b3
            have hb3' : b3 < 256 := by rw [← hb3]; exact (s.getD (i + 3) 0).toNat_lt
            by_cases d3 : b0 / 8 = 30 ∧ b1 / 64 = 2 ∧ b2 / 64 = 2 ∧ b3 / 64 = 2
            · rw [if_pos (by simp [d3.1, d3.2.1, d3.2.2.1, d3.2.2.2])]
              split
              · rename_i h
                simp only [ge_iff_le, Bool.and_eq_true, decide_eq_true_eq, Utf8.valid, Bool.or_eq_true] at h
                exact .inr (.inr (.inr (.inr ⟨b0, b1, b2, b3, rfl, rfl, rfl, rfl, trivial, by omega, by omega, d3.2.1, d3.2.2.1, d3.2.2.2, by omega, by omega, rfl⟩)))
              · exact .inl rfl
            · rw [if_neg (by simpa [and_assoc] using d3)]; exact .inl rfl
          · simp only [c3, decide_false, Bool.false_and, Bool.and_false, Bool.false_eq_true, if_false]; exact .inl rfl
      · simp only [c2, show ¬ i + 3 < s.length by omega, decide_false, Bool.false_and, Bool.and_false, Bool.false_eq_true, if_false]; exact .inl rfl
  · simp only [c1, show ¬ i + 2 < s.length by omega, show ¬ i + 3 < s.length by omega, decide_false, Bool.false_and, Bool.and_false, Bool.false_eq_true, if_false]; exact .inl rfl
end Go.Proofs.Ytcgfcnbcfcllpaa
