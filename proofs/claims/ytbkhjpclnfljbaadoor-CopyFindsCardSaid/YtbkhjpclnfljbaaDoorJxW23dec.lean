/- A character's bytes are read as one character. -/
import Derived.Test.YtbkhjpclnfljbaaDoorJxW23view2
set_option linter.unusedSimpArgs false
set_option linter.unusedVariables false
set_option maxHeartbeats 1000000
set_option maxRecDepth 100000
namespace Go.Proofs.YtbkhjpclnfljbaaDoor
open Go Go.Jx

theorem u8nat (n : Nat) (h : n < 256) : (UInt8.ofNat n).toNat = n := by
  have := u8n n h
  omega
theorem dec2 (a b : UInt8) (h1 : 192 ≤ a.toNat ∧ a.toNat < 224) (h2 : 128 ≤ b.toNat ∧ b.toNat < 192) (h3 : 128 ≤ a.toNat % 32 * 64 + b.toNat % 64) : (Utf8.decode ⟨#[a, b]⟩ 0).2 = 2 := by
  have g0 : ByteArray.get! ⟨#[a, b]⟩ (0 + 0) = a := rfl
  have g1 : ByteArray.get! ⟨#[a, b]⟩ (0 + 1) = b := rfl
  have hs : (ByteArray.size ⟨#[a, b]⟩) = 2 := rfl
  have c1 : (decide (0 + 1 < 2) && (b.toNat / 64 == 2)) = true := by simp; omega
  unfold Utf8.decode
  simp only [g0, g1, hs, c1, Bool.and_true]
  rw [if_neg (by omega), if_pos (by rw [beq_iff_eq]; omega), if_pos h3]
theorem dec3 (a b c : UInt8) (h1 : 224 ≤ a.toNat ∧ a.toNat < 240) (h2 : 128 ≤ b.toNat ∧ b.toNat < 192) (h2' : 128 ≤ c.toNat ∧ c.toNat < 192)
    (h3 : 2048 ≤ a.toNat % 16 * 4096 + b.toNat % 64 * 64 + c.toNat % 64) (hv : Utf8.valid ((a.toNat % 16 * 4096 + b.toNat % 64 * 64 + c.toNat % 64 : Nat) : Int) = true) : (Utf8.decode ⟨#[a, b, c]⟩ 0).2 = 3 := by
  have g0 : ByteArray.get! ⟨#[a, b, c]⟩ (0 + 0) = a := rfl
  have g1 : ByteArray.get! ⟨#[a, b, c]⟩ (0 + 1) = b := rfl
  have g2 : ByteArray.get! ⟨#[a, b, c]⟩ (0 + 2) = c := rfl
  have hs : (ByteArray.size ⟨#[a, b, c]⟩) = 3 := rfl
  have c1 : (decide (0 + 1 < 3) && (b.toNat / 64 == 2)) = true := by simp; omega
  have c2 : (decide (0 + 2 < 3) && (c.toNat / 64 == 2)) = true := by simp; omega
  unfold Utf8.decode
  simp only [g0, g1, g2, hs, c1, c2, Bool.and_true]
  rw [if_neg (by omega), if_neg (by rw [beq_iff_eq]; omega), if_pos (by rw [beq_iff_eq]; omega), if_pos (by rw [Bool.and_eq_true]; exact ⟨by rw [decide_eq_true_eq]; exact h3, hv⟩)]
theorem dec4 (a b c d : UInt8) (h1 : 240 ≤ a.toNat ∧ a.toNat < 248) (h2 : 128 ≤ b.toNat ∧ b.toNat < 192) (h2' : 128 ≤ c.toNat ∧ c.toNat < 192) (h2'' : 128 ≤ d.toNat ∧ d.toNat < 192)
    (h3 : 65536 ≤ a.toNat % 8 * 262144 + b.toNat % 64 * 4096 + c.toNat % 64 * 64 + d.toNat % 64) (hv : Utf8.valid ((a.toNat % 8 * 262144 + b.toNat % 64 * 4096 + c.toNat % 64 * 64 + d.toNat % 64 : Nat) : Int) = true) : (Utf8.decode ⟨#[a, b, c, d]⟩ 0).2 = 4 := by
  have g0 : ByteArray.get! ⟨#[a, b, c, d]⟩ (0 + 0) = a := rfl
  have g1 : ByteArray.get! ⟨#[a, b, c, d]⟩ (0 + 1) = b := rfl
  have g2 : ByteArray.get! ⟨#[a, b, c, d]⟩ (0 + 2) = c := rfl
  have g3 : ByteArray.get! ⟨#[a, b, c, d]⟩ (0 + 3) = d := rfl
  have hs : (ByteArray.size ⟨#[a, b, c, d]⟩) = 4 := rfl
  have c1 : (decide (0 + 1 < 4) && (b.toNat / 64 == 2)) = true := by simp; omega
  have c2 : (decide (0 + 2 < 4) && (c.toNat / 64 == 2)) = true := by simp; omega
  have c3 : (decide (0 + 3 < 4) && (d.toNat / 64 == 2)) = true := by simp; omega
  unfold Utf8.decode
  simp only [g0, g1, g2, g3, hs, c1, c2, c3, Bool.and_true]
  rw [if_neg (by omega), if_neg (by rw [beq_iff_eq]; omega), if_neg (by rw [beq_iff_eq]; omega), if_pos (by rw [beq_iff_eq]; omega), if_pos (by rw [Bool.and_eq_true]; exact ⟨by rw [decide_eq_true_eq]; exact h3, hv⟩)]
theorem dec_enc (r : Int) : (Utf8.decode (Utf8.encode r) 0).2 = (Utf8.encode r).size := by
  obtain ⟨c, hc⟩ : ∃ c : Nat, c = if Utf8.valid r then r.toNat else Utf8.runeError := ⟨_, rfl⟩
  have hv : Utf8.valid (c : Int) = true ∧ c ≤ 1114111 := by
    cases h : Utf8.valid r with
    | false => rw [h] at hc; simp at hc; subst hc; decide
    | true =>
      rw [h] at hc
      simp only [if_true] at hc
      have h' := h
      simp only [Utf8.valid, Bool.or_eq_true, Bool.and_eq_true, decide_eq_true_eq] at h'
      have : (c : Int) = r := by omega
      rw [this]
      exact ⟨h, by omega⟩
  obtain ⟨hv, hmax⟩ := hv
  have hvv := hv
  simp only [Utf8.valid, Bool.or_eq_true, Bool.and_eq_true, decide_eq_true_eq] at hvv
  unfold Utf8.encode
  rw [← hc]
  simp only
  split
  · rename_i h1
    have g0 : ByteArray.get! ⟨#[UInt8.ofNat c]⟩ (0 + 0) = UInt8.ofNat c := rfl
    unfold Utf8.decode
    simp only [g0, u8nat c (by omega)]
    rw [if_pos h1]; rfl
  · split
    · refine (dec2 _ _ ?_ ?_ ?_).trans rfl
      · rw [u8nat _ (by omega)]; omega
      · rw [u8nat _ (by omega)]; omega
      · rw [u8nat _ (by omega), u8nat _ (by omega)]; omega
    · split
      · have e : (UInt8.ofNat (224 + c / 4096)).toNat % 16 * 4096 + (UInt8.ofNat (128 + c / 64 % 64)).toNat % 64 * 64 + (UInt8.ofNat (128 + c % 64)).toNat % 64 = c := by
          rw [u8nat _ (by omega), u8nat _ (by omega), u8nat _ (by omega)]; omega
        refine (dec3 _ _ _ ?_ ?_ ?_ ?_ ?_).trans rfl
        · rw [u8nat _ (by omega)]; omega
        · rw [u8nat _ (by omega)]; omega
        · rw [u8nat _ (by omega)]; omega
        · rw [e]; omega
        · rw [e]; exact hv
      · have e : (UInt8.ofNat (240 + c / 262144)).toNat % 8 * 262144 + (UInt8.ofNat (128 + c / 4096 % 64)).toNat % 64 * 4096 + (UInt8.ofNat (128 + c / 64 % 64)).toNat % 64 * 64 + (UInt8.ofNat (128 + c % 64)).toNat % 64 = c := by
          rw [u8nat _ (by omega), u8nat _ (by omega), u8nat _ (by omega), u8nat _ (by omega)]; omega
        refine (dec4 _ _ _ _ ?_ ?_ ?_ ?_ ?_ ?_).trans rfl
        · rw [u8nat _ (by omega)]; omega
        · rw [u8nat _ (by omega)]; omega
        · rw [u8nat _ (by omega)]; omega
        · rw [u8nat _ (by omega)]; omega
        · rw [e]; omega
        · rw [e]; exact hv
theorem dec_utf8 (r : Int) : (Utf8.decode ⟨(utf8 r).toArray⟩ 0).2 = (utf8 r).length := by
  have h1 : (⟨(utf8 r).toArray⟩ : ByteArray) = Utf8.encode r := by
    unfold utf8; simp
  rw [h1, dec_enc]
  show (Utf8.encode r).size = ((Utf8.encode r).data.toList).length
  rw [Array.length_toList]; rfl
end Go.Proofs.YtbkhjpclnfljbaaDoor
