import Derived.Test.YtbkhjpclnfljbaaDoorJxW23MA
import Derived.Test.YtbkhjpclnfljbaaDoorJxW23MB
/- A character's bytes are read as one character. -/
set_option linter.unusedSimpArgs false
set_option linter.unusedVariables false
set_option maxHeartbeats 1000000
set_option maxRecDepth 100000
namespace Go.Proofs.YtbkhjpclnfljbaaDoor
open Go Go.Jx

theorem u8nat (n : Nat) (h : n < 256) : (UInt8.ofNat n).toNat = n := by
  have := u8n n h
  omega
theorem dec2 (a b : UInt8) (h1 : 192 ≤ a.toNat ∧ a.toNat < 224) (h2 : 128 ≤ b.toNat ∧ b.toNat < 192) (h3 : 128 ≤ a.toNat % 32 * 64 + b.toNat % 64) : (Utf8.decode ⟨#[a, b]⟩ 0).2 = 2 := by
  have g0 : ByteArray.get! ⟨#[a, b]⟩ (0 + 0) = a := rfl
  have g1 : ByteArray.get! ⟨#[a, b]⟩ (0 + 1) = b := rfl
  have hs : (ByteArray.size ⟨#[a, b]⟩) = 2 := rfl
  have c1 : (decide (0 + 1 < 2) && (b.toNat / 64 == 2)) = true := by simp; omega
  unfold Utf8.decode
  simp only [g0, g1, hs, c1, Bool.and_true]
  rw [if_neg (by omega), if_pos (by rw [beq_iff_eq]; omega), if_pos h3]
theorem dec3 (a b c : UInt8) (h1 : 224 ≤ a.toNat ∧ a.toNat < 240) (h2 : 128 ≤ b.toNat ∧ b.toNat < 192) (h2' : 128 ≤ c.toNat ∧ c.toNat < 192)
    (h3 : 2048 ≤ a.toNat % 16 * 4096 + b.toNat % 64 * 64 + c.toNat % 64) (hv : Utf8.valid ((a.toNat % 16 * 4096 + b.toNat % 64 * 64 + c.toNat % 64 : Nat) : Int) = true) : (Utf8.decode ⟨#[a, b, c]⟩ 0).2 = 3 := by
  have g0 : ByteArray.get! ⟨#[a, b, c]⟩ (0 + 0) = a := rfl
  have g1 : ByteArray.get! ⟨#[a, b, c]⟩ (0 + 1) = b := rfl
  have g2 : ByteArray.get! ⟨#[a, b, c]⟩ (0 + 2) = c := rfl
  have hs : (ByteArray.size ⟨#[a, b, c]⟩) = 3 := rfl
  have c1 : (decide (0 + 1 < 3) && (b.toNat / 64 == 2)) = true := by simp; omega
  have c2 : (decide (0 + 2 < 3) && (c.toNat / 64 == 2)) = true := by simp; omega
  unfold Utf8.decode
  simp only [g0, g1, g2, hs, c1, c2, Bool.and_true]
  rw [if_neg (by omega), if_neg (by rw [beq_iff_eq]; omega), if_pos (by rw [beq_iff_eq]; omega), if_pos (by rw [Bool.and_eq_true]; exact ⟨by rw [decide_eq_true_eq]; exact h3, hv⟩)]
theorem dec4 (a b c d : UInt8) (h1 : 240 ≤ a.toNat ∧ a.toNat < 248) (h2 : 128 ≤ b.toNat ∧ b.toNat < 192) (h2' : 128 ≤ c.toNat ∧ c.toNat < 192) (h2'' : 128 ≤ d.toNat ∧ d.toNat < 192)
    (h3 : 65536 ≤ a.toNat % 8 * 262144 + b.toNat % 64 * 4096 + c.toNat % 64 * 64 + d.toNat % 64) (hv : Utf8.valid ((a.toNat % 8 * 262144 + b.toNat % 64 * 4096 + c.toNat % 64 * 64 + d.toNat % 64 : Nat) : Int) = true) : (Utf8.decode ⟨#[a, b, c, d]⟩ 0).2 = 4 := by
  have g0 : ByteArray.get! ⟨#[a, b, c, d]⟩ (0 + 0) = a := rfl
  have g1 : ByteArray.get! ⟨#[a, b, c, d]⟩ (0 + 1) = b := rfl
  have g2 : ByteArray.get! ⟨#[a, b, c, d]⟩ (0 + 2) = c := rfl
  have g3 : ByteArray.get! ⟨#[a, b, c, d]⟩ (0 + 3) = d := rfl
  have hs : (ByteArray.size ⟨#[a, b, c, d]⟩) = 4 := rfl
  have c1 : (decide (0 + 1 < 4) && (b.toNat / 64 == 2)) = true := by simp; omega
  have c2 : (decide (0 + 2 < 4) && (c.toNat / 64 == 2)) = true := by simp; omega
  have c3 : (decide (0 + 3 < 4) && (d.toNat / 64 == 2)) = true := by simp; omega
  unfold Utf8.decode
  simp only [g0, g1, g2, g3, hs, c1, c2, c3, Bool.and_true]
  rw [if_neg (by omega), if_neg (by rw [beq_iff_eq]; omega), if_neg (by rw [beq_iff_eq]; omega), if_pos (by rw [beq_iff_eq]; omega), if_pos (by rw [Bool.and_eq_true]; exact ⟨by rw [decide_eq_true_eq]; exact h3, hv⟩)]
theorem dec_enc (r : Int) : (Utf8.decode (Utf8.encode r) 0).2 = (Utf8.encode r).size := by
  obtain ⟨c, hc⟩ : ∃ c : Nat, c = if Utf8.valid r then r.toNat else Utf8.runeError := ⟨_, rfl⟩
  have hv : Utf8.valid (c : Int) = true ∧ c ≤ 1114111 := by
    cases h : Utf8.valid r with
    | false => rw [h] at hc; simp at hc; subst hc; decide
    | true =>
      rw [h] at hc
      simp only [if_true] at hc
      have h' := h
      simp only [Utf8.valid, Bool.or_eq_true, Bool.and_eq_true, decide_eq_true_eq] at h'
      have : (c : Int) = r := by omega
      rw [this]
      exact ⟨h, by omega⟩
  obtain ⟨hv, hmax⟩ := hv
  have hvv := hv
  simp only [Utf8.valid, Bool.or_eq_true, Bool.and_eq_true, decide_eq_true_eq] at hvv
  unfold Utf8.encode
  rw [← hc]
  simp only
  split
  · rename_i h1
    have g0 : ByteArray.get! ⟨#[UInt8.ofNat c]⟩ (0 + 0) = UInt8.ofNat c := rfl
    unfold Utf8.decode
    simp only [g0, u8nat c (by omega)]
    rw [if_pos h1]; rfl
  · split
    · refine (dec2 _ _ ?_ ?_ ?_).trans rfl
      · rw [u8nat _ (by omega)]; omega
      · rw [u8nat _ (by omega)]; omega
      · rw [u8nat _ (by omega), u8nat _ (by omega)]; omega
    · split
      · have e : (UInt8.ofNat (224 + c / 4096)).toNat % 16 * 4096 + (UInt8.ofNat (128 + c / 64 % 64)).toNat % 64 * 64 + (UInt8.ofNat (128 + c % 64)).toNat % 64 = c := by
          rw [u8nat _ (by omega), u8nat _ (by omega), u8nat _ (by omega)]; omega
        refine (dec3 _ _ _ ?_ ?_ ?_ ?_ ?_).trans rfl
        · rw [u8nat _ (by omega)]; omega
        · rw [u8nat _ (by omega)]; omega
        · rw [u8nat _ (by omega)]; omega
        · rw [e]; omega
        · rw [e]; exact hv
      · have e : (UInt8.ofNat (240 + c / 262144)).toNat % 8 * 262144 + (UInt8.ofNat (128 + c / 4096 % 64)).toNat % 64 * 4096 + (UInt8.ofNat (128 + c / 64 % 64)).toNat % 64 * 64 + (UInt8.ofNat (128 + c % 64)).toNat % 64 = c := by
          rw [u8nat _ (by omega), u8nat _ (by omega), u8nat _ (by omega), u8nat _ (by omega)]; omega
        refine (dec4 _ _ _ _ ?_ ?_ ?_ ?_ ?_ ?_).trans rfl
        · rw [u8nat _ (by omega)]; omega
        · rw [u8nat _ (by omega)]; omega
        · rw [u8nat _ (by omega)]; omega
        · rw [u8nat _ (by omega)]; omega
        · rw [e]; omega
        · rw [e]; exact hv
theorem dec_utf8 (r : Int) : (Utf8.decode ⟨(utf8 r).toArray⟩ 0).2 = (utf8 r).length := by
  have h1 : (⟨(utf8 r).toArray⟩ : ByteArray) = Utf8.encode r := by
    unfold utf8; simp
  rw [h1, dec_enc]
  show (Utf8.encode r).size = ((Utf8.encode r).data.toList).length
  rw [Array.length_toList]; rfl
end Go.Proofs.YtbkhjpclnfljbaaDoor
/- Views: what the laws are handed. -/
set_option linter.unusedSimpArgs false
set_option linter.unusedVariables false
set_option maxHeartbeats 1000000
set_option maxRecDepth 100000
namespace Go.Proofs.YtbkhjpclnfljbaaDoor
open Go Go.Jx

theorem w10g (h : Heap) : Wc DD 10 [] h fun v h' => v = .sc (.bool true) ∧ h' = h := W_known rfl
theorem w9 {v : SV} {G : List LnC} {h : Heap} (hv : LnsR (Now h) v G) (hl : G.length ≤ 2 ^ 63 - 1) (hl2 : ∀ g ∈ G, g.2.length ≤ 2 ^ 63 - 1) : Wc DD 9 [.sc v] h fun w h' => (∃ b, w = bo b ∧ (b = false → G.length ≤ 25 ∧ ∀ g ∈ G, g.2.length ≤ 30)) ∧ h' = h := by
  have hs := Sep.entry h
  have hln := hv.ln
  have hv1 := hv.1
  have hGl : (G.map Prod.fst).length = G.length := List.length_map ..
  refine W_enter d9 ?_
  show W _ (.code m9_code [.sc v, undefA, undefA, undefA, undefA, undefA, undefA, undefA, undefA, undefA, undefA, undefA, undefA, undefA, undefA, undefA, undefA, undefA, undefA, undefA] _) _
  unfold m9_code
  repeat' (first
    | (refine K_ops ?_; first
      | refine W_fastB rfl ?_
      | refine W_nil ?_
      | (refine W_lenL rfl (by first | assumption | exact SlR.ln (by assumption) | exact AccS.ln (by assumption) | exact OwnS.ln (by assumption) | exact VwO.ln (by assumption) | exact OwnP.ln (by assumption) | exact Len.sl) ?_; refine W_norm rfl ?_)
    )
    | (refine K_code ?_; first
      | refine W_seq ?_
      | refine W_ops ?_
      | (refine W_cond rfl (fun hc => ?_) (fun hc => ?_) <;> (try rw [hc]) <;> (try simp only [decide_eq_true_eq, decide_eq_false_iff_not, beq_iff_eq, beq_eq_false_iff_ne, bne_iff_ne, bne_eq_false_iff_eq, Bool.not_eq_true', Bool.not_eq_false', Int.not_lt, Int.not_le, ne_eq, reduceCtorEq, not_true_eq_false, not_false_eq_true, Decidable.not_not] at hc) <;> (try (exfalso; omega)) <;> (try refine W_norm rfl ?_))
      | refine W_skip ?_
      | refine W_ret ?_
      | refine W_block ?_
    )
    | refine seqK_n ?_
    | refine seqK_r ?_
    | (refine fnK_r rfl ?_; try dsimp only [gd_z, gd_s]))
  · exact ⟨_, rfl, ⟨_, rfl, fun h => by cases h⟩, rfl⟩
  refine W_loopB [2, 3, 7, 8, 9, 10, 11, 12, 13, 14, 15, 16, 17, 18, 19] [0, 1, 2, 3, 4, 5, 6, 7, 8, 9, 10, 11, 12, 13, 14, 15, 16, 17, 18, 19] (fun n' sl h' => ∃ (k : Nat), sl = [(3, .sc (.int .i64 (k : Int)))] ∧ n' = G.length - k ∧ k ≤ G.length ∧ (∀ i, i < k → (atC G i).length ≤ 30) ∧ h' = h) ?_ ?_
  · refine ⟨_, _, ⟨0, rfl, rfl, Nat.zero_le _, fun i hi => absurd hi (by omega), rfl⟩, EnvB.of rfl⟩
  rintro _ _ us _ h ⟨k, rfl, rfl, hk, hz, rfl⟩ he
  refine W_spell he rfl ?_
  clear he
  unfold m9_l4
  by_cases hlt : k < G.length
  · have hr := (hv.at hlt).ln
    have hrb : (atC G k).length ≤ 2 ^ 63 - 1 := atC_len hl2 hlt
    repeat' (first
      | (refine K_ops ?_; first
        | refine W_fastB rfl ?_
        | refine W_nil ?_
        | (refine W_lenL rfl (by first | assumption | exact SlR.ln (by assumption) | exact AccS.ln (by assumption) | exact OwnS.ln (by assumption) | exact VwO.ln (by assumption) | exact OwnP.ln (by assumption) | exact Len.sl) ?_; refine W_norm rfl ?_)
        | (refine K_bin ?_; first
          | (refine W_add rfl rfl (IntWalk.i64_in _ (by first | omega | (simp only [List.length_set, List.length_append, List.length_take, List.length_drop, List.length_replicate, List.length_cons, List.length_nil, decs_length, List.length_map]; omega))) ?_; refine W_norm rfl ?_)
        )
        | (refine K_index ?_; first
          | (refine W_indexR rfl rfl (by assumption) rfl ⟨(by first | omega | (simp only [List.length_set, List.length_append, List.length_take, List.length_drop, List.length_replicate, List.length_cons, List.length_nil, decs_length, List.length_map]; omega)), (by first | omega | (simp only [List.length_set, List.length_append, List.length_take, List.length_drop, List.length_replicate, List.length_cons, List.length_nil, decs_length, List.length_map]; omega))⟩ ?_; intro _ _ _; refine W_norm rfl ?_)
        )
        | (refine K_load ?_; first
          | (refine W_loadR hs rfl (by assumption) rfl ?_; refine W_norm rfl ?_)
        )
      )
      | (refine K_code ?_; first
        | refine W_seq ?_
        | refine W_ops ?_
        | (refine W_cond rfl (fun hc => ?_) (fun hc => ?_) <;> (try rw [hc]) <;> (try simp only [decide_eq_true_eq, decide_eq_false_iff_not, beq_iff_eq, beq_eq_false_iff_ne, bne_iff_ne, bne_eq_false_iff_eq, Bool.not_eq_true', Bool.not_eq_false', Int.not_lt, Int.not_le, ne_eq, reduceCtorEq, not_true_eq_false, not_false_eq_true, Decidable.not_not] at hc) <;> (try (exfalso; omega)) <;> (try refine W_norm rfl ?_))
        | refine W_skip ?_
        | refine W_ret ?_
        | refine W_block ?_
      )
      | refine seqK_n ?_
      | refine seqK_r ?_
      | refine blockK_r ?_
      | refine blockK_n ?_
      | refine invK_r ?_
      | refine invK_n ?_
      | (refine fnK_r rfl ?_; try dsimp only [gd_z, gd_s]))
    · exact ⟨_, rfl, ⟨_, rfl, fun h => by cases h⟩, rfl⟩
    · refine ⟨_, ?_, _, ⟨k + 1, rfl, rfl, ?_, ?_, rfl⟩, EnvB.of rfl⟩
      · omega
      · omega
      · intro i hi
        by_cases e : i = k
        · subst e; omega
        · exact hz i (by omega)
  · repeat' (first
      | (refine K_ops ?_; first
        | refine W_fastB rfl ?_
        | refine W_nil ?_
        | (refine W_lenL rfl (by first | assumption | exact SlR.ln (by assumption) | exact AccS.ln (by assumption) | exact OwnS.ln (by assumption) | exact VwO.ln (by assumption) | exact OwnP.ln (by assumption) | exact Len.sl) ?_; refine W_norm rfl ?_)
      )
      | (refine K_code ?_; first
        | refine W_seq ?_
        | refine W_ops ?_
        | (refine W_cond rfl (fun hc => ?_) (fun hc => ?_) <;> (try rw [hc]) <;> (try simp only [decide_eq_true_eq, decide_eq_false_iff_not, beq_iff_eq, beq_eq_false_iff_ne, bne_iff_ne, bne_eq_false_iff_eq, Bool.not_eq_true', Bool.not_eq_false', Int.not_lt, Int.not_le, ne_eq, reduceCtorEq, not_true_eq_false, not_false_eq_true, Decidable.not_not] at hc) <;> (try (exfalso; omega)) <;> (try refine W_norm rfl ?_))
        | refine W_ret ?_
        | refine W_exit ?_
      )
      | refine seqK_n ?_
      | refine seqK_x ?_
      | refine blockK_e ?_
      | refine invK_x ?_
      | (refine fnK_r rfl ?_; try dsimp only [gd_z, gd_s]))
    refine ⟨_, rfl, ⟨_, rfl, fun _ => ⟨by omega, fun g hg => ?_⟩⟩, rfl⟩
    obtain ⟨i, hi, e⟩ := mem_atC hg
    rw [← e]; exact hz i (by omega)

/-- Characters are numbers of 32 bits. -/
def RunesG (G : List LnC) : Prop := ∀ g ∈ G, ∀ c ∈ g.2, -2147483648 ≤ c.r ∧ c.r ≤ 2147483647
theorem openCellR {H : Heap} {l : List SV} (o : OpenL H [.int .i32, .int .u8, .int .u16, .int .u8, .int .u32, .int .u8, .int .u32] l) : ∃ a, l = cellE.enc a ∧ (-2147483648 ≤ a.r ∧ a.r ≤ 2147483647) := by
  simp only [OpenL, OpenS] at o
  obtain ⟨_, _, rfl, ⟨r, rfl, hr1, hr2⟩, _, _, rfl, ⟨w, rfl, hw1, hw2⟩, _, _, rfl, ⟨f, rfl, _⟩, _, _, rfl, ⟨fk, rfl, _⟩, _, _, rfl, ⟨fn, rfl, _⟩, _, _, rfl, ⟨bk, rfl, _⟩, _, _, rfl, ⟨bn, rfl, _⟩, rfl⟩ := o
  exact ⟨⟨r, w, ⟨f, fk, fn, bk, bn⟩⟩, rfl, hr1, hr2⟩
theorem lines_of {H : Heap} : ∀ {L : List LnH}, (∀ s ∈ L, ∃ X : List Cell, Sl cellE.enc cellE.n H s.v X ∧ (∀ a ∈ X, (-2147483648 ≤ a.r ∧ a.r ≤ 2147483647)) ∧ X.length ≤ 2 ^ 63 - 1) →
    ∃ G : List LnC, G.map Prod.fst = L ∧ (∀ g ∈ G, SlR cellE (Now H) g.1.v g.2) ∧ (∀ g ∈ G, g.2.length ≤ 2 ^ 63 - 1) ∧ RunesG G
  | [], _ => ⟨[], rfl, by simp, by simp, by simp [RunesG]⟩
  | s :: L, h => by
    obtain ⟨G, h1, h2, h4, h8⟩ := lines_of (H := H) (L := L) (fun s hs => h s (by simp [hs]))
    obtain ⟨X, h5, h6, h7⟩ := h s (by simp)
    refine ⟨(s, X) :: G, by simp [h1], ?_, ?_, ?_⟩ <;> intro g hg <;> rcases List.mem_cons.1 hg with rfl | hg
    · exact h5
    · exact h2 g hg
    · exact h7
    · exact h4 g hg
    · exact h6
    · exact h8 g hg
theorem openLines {H : Heap} {v : SV} (o : OpenS H (.slice 27 3 [.slice 71 7 [.int .i32, .int .u8, .int .u16, .int .u8, .int .u32, .int .u8, .int .u32], .bool, .bool]) v) :
    ∃ G : List LnC, LnsR (Now H) v G ∧ G.length ≤ 2 ^ 63 - 1 ∧ (∀ g ∈ G, g.2.length ≤ 2 ^ 63 - 1) ∧ RunesG G := by
  obtain ⟨L, h1, h2, h3⟩ := o.sl (enc := lnE.enc) (R := fun s => OpenS H (.slice 71 7 [.int .i32, .int .u8, .int .u16, .int .u8, .int .u32, .int .u8, .int .u32]) s.v) lnE.len (fun l o => by
    simp only [OpenL] at o
    obtain ⟨s, _, rfl, h, _, _, rfl, hb, _, _, rfl, hc, rfl⟩ := o
    simp only [OpenS] at hb hc
    obtain ⟨b, rfl⟩ := hb
    obtain ⟨c, rfl⟩ := hc
    exact ⟨⟨s, b, c⟩, rfl, h⟩)
  obtain ⟨G, h4, h5, h7, h8⟩ := lines_of (H := H) (L := L) (fun s hs => (h2 s hs).sl (enc := cellE.enc) cellE.len fun l o => openCellR o)
  refine ⟨G, ⟨by rw [h4]; exact h1, h5⟩, ?_, h7, h8⟩
  rw [← h4, List.length_map] at h3; exact h3

theorem okB_ok {G : List LnC} {n : Int} (h : okB (G.map lnOf) n) (hl2 : ∀ g ∈ G, g.2.length ≤ 30) (hr : RunesG G) : OkV (newV (G.map lnOf) n) := by
  obtain ⟨a1, a2, a3, a4, a5⟩ := h
  refine newV_ok ⟨a1, a2, a3, a4, fun l hl => ?_, fun l hl => ?_⟩
  · obtain ⟨g, hg, rfl⟩ := List.mem_map.1 hl
    have := a5 _ hl
    have := hl2 g hg
    show 1 ≤ g.2.length ∧ g.2.length ≤ 1000
    have h0 : g.2.length ≠ 0 := a5 _ hl
    omega
  · obtain ⟨g, hg, rfl⟩ := List.mem_map.1 hl
    exact hr g hg
theorem w11v {v : SV} {G : List LnC} {h : Heap} {n : Int} (hv : LnsR (Now h) v G) (hl : G.length ≤ 25) (hl2 : ∀ g ∈ G, g.2.length ≤ 30) (hn : -9223372036854775808 ≤ n ∧ n ≤ 9223372036854775807) :
    Wc DD 11 [.sc v, i64 n] h fun w h' => ∃ (p : SV) (e : Int), w = .tup [.sc p, i64 e] ∧ ((¬ okB (G.map lnOf) n ∧ p = .nilp ∧ e = 1 ∧ Sep (Now h) [] h') ∨
      (okB (G.map lnOf) n ∧ ∃ id u G' k, p = .ptr id 0 ∧ e = 0 ∧ VwR (InP k) u .nilp (newV (G.map lnOf) n) G' ∧ Sep (Now h) [vwO id u .nilp (newV (G.map lnOf) n), k] h')) := by
  refine (w11 hv (by omega) (fun g hg => Nat.le_trans (hl2 g hg) (by omega)) hn).mono ?_
  rintro _ _ _ ⟨w, rfl, ⟨h1, rfl, h2⟩ | ⟨h1, id, u, c, X, rfl, ha, hO, hs⟩⟩
  · exact ⟨_, rfl, _, _, rfl, .inl ⟨h1, rfl, rfl, h2⟩⟩
  · obtain ⟨G', g1, g2, _⟩ := OwnX.lns (R := InP (c ++ (X.map Prod.snd).flatten)) ha hO (fun p hp => hp)
    refine ⟨_, rfl, _, _, rfl, .inr ⟨h1, id, u, G', _, rfl, rfl, ⟨g1, g2, .inl ⟨rfl, rfl⟩⟩, hs.sublist ?_⟩⟩
    simp
theorem VwR.toV {R : Ro} {lv mk : SV} {v : Vw} {G : List LnC} (p : VwR R lv mk v G) (x y : Int) : VwR R lv mk (toV v x y) G := ⟨p.lns, p.map, p.mr⟩
theorem VwR.clear {R : Ro} {lv mk : SV} {v : Vw} {G : List LnC} (p : VwR R lv mk v G) : VwR R lv .nilp (clearV v) G := ⟨p.lns, p.map, .inl ⟨rfl, rfl⟩⟩
theorem VwR.mark {R : Ro} {lv mk : SV} {v : Vw} {G : List LnC} {idm : Nat} {c : TypeId} (p : VwR R lv mk v G) : VwR (R.add [(idm, .cells c .own [.int .i64 v.x, .int .i64 v.y])]) lv (.ptr idm 0) (markV v) G :=
  ⟨p.lns.mono (Ro.le_add _ _), p.map, .inr ⟨v.x, v.y, idm, c, .own, rfl, rfl, .inr (by simp)⟩⟩
theorem VwR.more {R : Ro} {k : Hp} {lv mk : SV} {v : Vw} {G : List LnC} (p : VwR R lv mk v G) : VwR (R.add k) lv mk v G := p.mono (Ro.le_add _ _)

theorem w11n {v : SV} {G : List LnC} {h : Heap} {n : Int} (hv : LnsR (Now h) v G) (hl : G.length ≤ 25) (hl2 : ∀ g ∈ G, g.2.length ≤ 30) (hn : -9223372036854775808 ≤ n ∧ n ≤ 9223372036854775807) (hok : ¬ okB (G.map lnOf) n) :
    Wc DD 11 [.sc v, i64 n] h fun w h' => w = .tup [.sc .nilp, i64 1] ∧ Sep (Now h) [] h' := by
  refine (w11v hv hl hl2 hn).mono ?_
  rintro _ _ _ ⟨w, rfl, p, e, rfl, ⟨h1, rfl, rfl, h2⟩ | ⟨h1, _⟩⟩
  · exact ⟨_, rfl, rfl, h2⟩
  · exact absurd h1 hok
theorem w11y {v : SV} {G : List LnC} {h : Heap} {n : Int} (hv : LnsR (Now h) v G) (hl : G.length ≤ 25) (hl2 : ∀ g ∈ G, g.2.length ≤ 30) (hn : -9223372036854775808 ≤ n ∧ n ≤ 9223372036854775807) (hok : okB (G.map lnOf) n) :
    Wc DD 11 [.sc v, i64 n] h fun w h' => ∃ id u G' k, w = .tup [.sc (.ptr id 0), i64 0] ∧ VwR (InP k) u .nilp (newV (G.map lnOf) n) G' ∧ Sep (Now h) [vwO id u .nilp (newV (G.map lnOf) n), k] h' := by
  refine (w11v hv hl hl2 hn).mono ?_
  rintro _ _ _ ⟨w, rfl, p, e, rfl, ⟨h1, _⟩ | ⟨h1, id, u, G', k, rfl, rfl, h2, h3⟩⟩
  · exact absurd hok h1
  · exact ⟨_, rfl, id, u, G', k, rfl, h2, h3⟩
end Go.Proofs.YtbkhjpclnfljbaaDoor
/- Views: what is done with them. -/
set_option linter.unusedSimpArgs false
set_option linter.unusedVariables false
set_option maxHeartbeats 1000000
set_option maxRecDepth 100000
namespace Go.Proofs.YtbkhjpclnfljbaaDoor
open Go Go.Jx

structure ActV where
  d : Int
  x : Int
  y : Int
  t : List UInt8
def actE : El ActV := ⟨4, fun a => [.int .u8 a.d, .int .i64 a.x, .int .i64 a.y, .str a.t], fun l => match l with | [.int _ d, .int _ x, .int _ y, .str t] => ⟨d, x, y, t⟩ | _ => ⟨0, 0, 0, []⟩, ⟨0, 0, 0, []⟩, fun _ => rfl, by decide, fun _ => rfl⟩
def okA (a : ActV) : Prop := (-9223372036854775808 ≤ a.x ∧ a.x ≤ 9223372036854775807) ∧ (-9223372036854775808 ≤ a.y ∧ a.y ≤ 9223372036854775807) ∧ a.t.length ≤ 9223372036854775807
def actV (v : Vw) (a : ActV) : Vw :=
  if a.d = 0 then toV v a.x a.y else if a.d = 1 then moveV v a.x a.y else if a.d = 2 then markV v else if a.d = 3 then clearV v else if a.d = 4 then (findR v a.t (decide (a.x < 0))).1 else v

theorem findR_ok {v : Vw} (ok : OkV v) (q : List UInt8) (b : Bool) : OkV (findR v q b).1 := by
  unfold findR findV
  split
  · cases hh : pickL (spotsL v.L q) (v.x, v.y) b with
    | none => exact ok
    | some p => exact toV_ok ok _ _
  · exact ok
theorem findR_h {v : Vw} (q : List UInt8) (b : Bool) : (findR v q b).1.h = v.h := by
  unfold findR findV
  split
  · cases hh : pickL (spotsL v.L q) (v.x, v.y) b with
    | none => rfl
    | some p => rfl
  · rfl
theorem VwR.find {R : Ro} {lv mk : SV} {v : Vw} {G : List LnC} (p : VwR R lv mk v G) (q : List UInt8) (b : Bool) : VwR R lv mk (findR v q b).1 G := by
  unfold findR findV
  split
  · cases hh : pickL (spotsL v.L q) (v.x, v.y) b with
    | none => exact p
    | some x => exact p.toV _ _
  · exact p
theorem actV_ok {v : Vw} (ok : OkV v) (a : ActV) : OkV (actV v a) := by
  unfold actV
  split
  · exact toV_ok ok _ _
  split
  · exact moveV_ok ok _ _
  split
  · exact markV_ok ok
  split
  · exact clearV_ok ok
  split
  · exact findR_ok ok _ _
  · exact ok
theorem actV_h (v : Vw) (a : ActV) : (actV v a).h = v.h := by
  unfold actV
  split
  · rfl
  split
  · rfl
  split
  · rfl
  split
  · rfl
  split
  · exact findR_h _ _
  · rfl
theorem actV0 {v : Vw} {a : ActV} (h : a.d = 0) : actV v a = toV v a.x a.y := by unfold actV; rw [if_pos h]
theorem actV1 {v : Vw} {a : ActV} (h : a.d = 1) : actV v a = moveV v a.x a.y := by unfold actV; rw [if_neg (by omega), if_pos h]
theorem actV2 {v : Vw} {a : ActV} (h : a.d = 2) : actV v a = markV v := by unfold actV; rw [if_neg (by omega), if_neg (by omega), if_pos h]
theorem actV3 {v : Vw} {a : ActV} (h : a.d = 3) : actV v a = clearV v := by unfold actV; rw [if_neg (by omega), if_neg (by omega), if_neg (by omega), if_pos h]
theorem actV4 {v : Vw} {a : ActV} (h : a.d = 4) : actV v a = (findR v a.t (decide (a.x < 0))).1 := by unfold actV; rw [if_neg (by omega), if_neg (by omega), if_neg (by omega), if_neg (by omega), if_pos h]
theorem actV5 {v : Vw} {a : ActV} (h0 : a.d ≠ 0) (h1 : a.d ≠ 1) (h2 : a.d ≠ 2) (h3 : a.d ≠ 3) (h4 : a.d ≠ 4) : actV v a = v := by unfold actV; rw [if_neg h0, if_neg h1, if_neg h2, if_neg h3, if_neg h4]
theorem w13g {R : Ro} {M : List Hp} {h : Heap} {id : Nat} {lv mk : SV} {v v' : Vw} {c : Int} {G : List LnC} {q : List UInt8} {back : Bool} (hs : Sep R (vwO id lv mk v :: M) h) (hG : VwR R lv mk v G) (ok : OkV v) (ht : q.length ≤ 9223372036854775807) (hf : findR v q back = (v', c)) :
    Wc DD 13 [.sc (.ptr id 0), .sc (.str q), bo back] h fun w h' => w = i64 c ∧ Sep R (vwO id lv mk v' :: M) h' := by
  have := w13 (back := back) hs hG ok ht
  rw [hf] at this
  exact this
end Go.Proofs.YtbkhjpclnfljbaaDoor
