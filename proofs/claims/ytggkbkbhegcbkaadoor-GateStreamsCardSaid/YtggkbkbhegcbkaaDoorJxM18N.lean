import Derived.Test.YtggkbkbhegcbkaaDoorJxM18J
import Derived.Test.YtggkbkbhegcbkaaDoorJxM18L
/- The document's events of a text, walked; the law GateStreams. CLNONE -/
set_option linter.unusedSimpArgs false
set_option linter.unusedVariables false
set_option maxHeartbeats 4000000
set_option maxRecDepth 100000
namespace Go.Proofs.YtggkbkbhegcbkaaDoor
open Go Go.Jx

theorem PzIn.more {R : Ro} {M : List Hp} {id n e e' : Nat} {h : Heap} (z : PzIn R M id n e h) (he : e ≤ e') : PzIn R M id n e' h := by
  obtain ⟨st, fin, kept, list, mids, text, u, L, ct, cp, hs, hu, hL, r⟩ := z
  exact ⟨st, fin, kept, list, mids, text, u, L, ct, cp, hs, hu, by omega, r⟩
theorem w32_end {R : Ro} {M : List Hp} {h : Heap} {id n : Nat} {b : UInt8} {a nx : Int} {e : List AV} (hz : PzIn R M id n 2 h) (hn : n ≤ 100000) (he : EnvIs 219 [(0, .sc (.ptr id 0)), (1, .sc (.int .u8 (b.toNat : Int))), (4, i64 a), (5, i64 nx)] e) :
    W DD (.code (.seq (.seq (.ops m32_r9) (.block 0 (.seq (.ops m32_r10) (.cond (.t 76) (.seq (.ops m32_r11) (.seq (.ops m32_r12) (.block 1 (.loop m32_l13)))) (.seq (.ops m32_r17) (.cond (.t 95) (.ops m32_r18) (.seq (.ops m32_r19) (.cond (.t 108) (.draw m32_r20) (.seq (.ops m32_r21) (.cond (.t 121) (.draw m32_r22) (.seq (.ops m32_r23) (.cond (.t 134) (.seq (.ops m32_r24) (.cond (.t 152) (.draw m32_r25) .skip)) (.seq (.ops m32_r26) (.cond (.t 168) (.seq (.ops m32_r27) (.cond (.t 175) (.draw m32_r28) .skip)) (.seq (.ops m32_r29) (.cond (.t 196) (.ops m32_r30) (.seq (.ops m32_r31) (.cond (.t 202) (.draw m32_r32) .skip)))))))))))))))))) (.ops m32_r33)) e h)
      (fnK m32 fun _ vs h' => ∃ v, vs = [v] ∧ v = .tup [] ∧ PzIn R M id (n + 1) 0 h') := by
  by_cases h1 : a = 1
  · subst h1; exact w32_1 hz hn he
  by_cases h2 : a = 2
  · subst h2; exact w32_2 hz hn he
  by_cases h3 : a = 3
  · subst h3; exact w32_3 hz hn he
  by_cases h4 : a = 4
  · subst h4; exact w32_4 hz hn he
  by_cases h5 : a = 5
  · subst h5; exact w32_5 hz hn he
  by_cases h6 : a = 6
  · subst h6; exact w32_6 hz hn he
  by_cases h8 : a = 8
  · subst h8; exact w32_8 hz hn he
  exact w32_x hz hn ⟨h1, h2, h3, h4, h5, h6, h8⟩ he
theorem w32 {R : Ro} {M : List Hp} {h : Heap} {id n : Nat} {b : UInt8} (hz : PzIn R M id n 0 h) (hn : n ≤ 100000) :
    Wc DD 32 [.sc (.ptr id 0), .sc (.int .u8 (b.toNat : Int))] h fun v h' => v = .tup [] ∧ PzIn R M id (n + 1) 0 h' := by
  obtain ⟨st, fin, kept, list, mids, text, u, L, ct, cp, hs, hu, hL, hg, hf, hk, hll, hml, htl⟩ := hz
  refine W_enter d32 ?_
  show W _ (.code m32_code [.sc (.ptr id 0), .sc (.int .u8 (b.toNat : Int)), undefA, undefA, undefA, undefA, undefA, undefA, undefA, undefA, undefA, undefA, undefA, undefA, undefA, undefA, undefA, undefA, undefA, undefA, undefA, undefA, undefA, undefA, undefA, undefA, undefA, undefA, undefA, undefA, undefA, undefA, undefA, undefA, undefA, undefA, undefA, undefA, undefA, undefA, undefA, undefA, undefA, undefA, undefA, undefA, undefA, undefA, undefA, undefA, undefA, undefA, undefA, undefA, undefA, undefA, undefA, undefA, undefA, undefA, undefA, undefA, undefA, undefA, undefA, undefA, undefA, undefA, undefA, undefA, undefA, undefA, undefA, undefA, undefA, undefA, undefA, undefA, undefA, undefA, undefA, undefA, undefA, undefA, undefA, undefA, undefA, undefA, undefA, undefA, undefA, undefA, undefA, undefA, undefA, undefA, undefA, undefA, undefA, undefA, undefA, undefA, undefA, undefA, undefA, undefA, undefA, undefA, undefA, undefA, undefA, undefA, undefA, undefA, undefA, undefA, undefA, undefA, undefA, undefA, undefA, undefA, undefA, undefA, undefA, undefA, undefA, undefA, undefA, undefA, undefA, undefA, undefA, undefA, undefA, undefA, undefA, undefA, undefA, undefA, undefA, undefA, undefA, undefA, undefA, undefA, undefA, undefA, undefA, undefA, undefA, undefA, undefA, undefA, undefA, undefA, undefA, undefA, undefA, undefA, undefA, undefA, undefA, undefA, undefA, undefA, undefA, undefA, undefA, undefA, undefA, undefA, undefA, undefA, undefA, undefA, undefA, undefA, undefA, undefA, undefA, undefA, undefA, undefA, undefA, undefA, undefA, undefA, undefA, undefA, undefA, undefA, undefA, undefA, undefA, undefA, undefA, undefA, undefA, undefA, undefA, undefA, undefA, undefA, undefA, undefA, undefA, undefA, undefA, undefA, undefA, undefA, undefA, undefA, undefA, undefA, undefA, undefA, undefA] _) _
  unfold m32_code
  repeat' (first
    | (refine K_ops ?_; first
      | refine W_fastB rfl ?_
      | refine W_nil ?_
      | (refine K_call ?_; first
        | (refine W_callsN 47 rfl (w47) rfl ?_; rintro _ h ⟨a, nx, rfl, t⟩; replace hs := hs.call t; try simp only [setS] at hs; refine W_norm rfl ?_)
        | (refine W_callsN 33 rfl (w33 hs hu (by omega) hg) rfl ?_; rintro _ h ⟨u2, L2, ct2, rfl, hu2, hL2, hg2, hs2⟩; refine W_norm rfl ?_)
      )
      | (refine K_load ?_; first
        | (refine W_loadC hs 0 rfl rfl rfl ?_; refine W_norm rfl ?_)
      )
    )
    | (refine K_code ?_; first
      | (refine W_midB (a := .seq (.ops m32_r1) _) [17, 18, 19, 20] [0, 1, 2, 3, 4, 5, 6, 7, 8, 9, 10, 11, 12, 13, 14, 15, 16, 17, 18, 19, 20, 21, 22, 23, 24, 25, 26, 27, 28, 29, 30, 31, 32, 33, 34, 35, 36, 37, 38, 39, 40, 41, 42, 43, 44, 45, 46, 47, 48, 49, 50, 51, 52, 53, 54, 55, 56, 57, 58, 59, 60, 61, 62, 63, 64, 65, 66, 67, 68, 69, 70, 71, 72, 73, 74, 75, 76, 77, 78, 79, 80, 81, 82, 83, 84, 85, 86, 87, 88, 89, 90, 91, 92, 93, 94, 95, 96, 97, 98, 99, 100, 101, 102, 103, 104, 105, 106, 107, 108, 109, 110, 111, 112, 113, 114, 115, 116, 117, 118, 119, 120, 121, 122, 123, 124, 125, 126, 127, 128, 129, 130, 131, 132, 133, 134, 135, 136, 137, 138, 139, 140, 141, 142, 143, 144, 145, 146, 147, 148, 149, 150, 151, 152, 153, 154, 155, 156, 157, 158, 159, 160, 161, 162, 163, 164, 165, 166, 167, 168, 169, 170, 171, 172, 173, 174, 175, 176, 177, 178, 179, 180, 181, 182, 183, 184, 185, 186, 187, 188, 189, 190, 191, 192, 193, 194, 195, 196, 197, 198, 199, 200, 201, 202, 203, 204, 205, 206, 207, 208, 209, 210, 211, 212, 213, 214, 215, 216, 217, 218] (fun sl h' => sl = [] ∧ PzIn R M id n 1 h') ?_ ?_)
      | refine W_seq ?_
      | refine W_ops ?_
      | (refine W_cond rfl (fun hc => ?_) (fun hc => ?_) <;> (try rw [hc]) <;> (try simp only [cleanS, reduceCtorEq] at hc) <;> (try (exfalso; omega)) <;> (try refine W_norm rfl ?_))
      | refine W_skip ?_
    )
    | refine seqK_n ?_
    | refine midK_n ?_)
  all_goals first
    | exact ⟨_, ⟨rfl, _, _, _, _, _, _, _, _, _, _, hs2, hu2, by omega, hg2, hf, by simp, hll, hml, htl⟩, EnvB.of rfl⟩
    | exact ⟨_, ⟨rfl, _, _, _, _, _, _, _, _, _, _, hs, hu, by omega, hg, hf, hk, hll, hml, htl⟩, EnvB.of rfl⟩
    | skip
  clear hs hu hL hg hf hk hll hml htl
  rintro _ us _ h5 ⟨rfl, hz⟩ he
  refine W_spell he rfl ?_
  clear he
  obtain ⟨st, fin, kept, list, mids, text, u, L, ct, cp, hs, hu, hL, hg, hf, hk, hll, hml, htl⟩ := hz
  repeat' (first
    | (refine K_ops ?_; first
      | refine W_fastB rfl ?_
      | refine W_nil ?_
      | (refine K_guard ?_; first
        | refine W_guard_on rfl ?_
        | refine W_guard_off rfl rfl (W_norm rfl ?_)
        | refine W_guard_u rfl (W_norm rfl ?_)
        | (refine W_guardT rfl (fun hc => ?_) (fun hc => ?_) <;> (try rw [hc]) <;> (try simp only [cleanS, reduceCtorEq] at hc) <;> (try (exfalso; omega)) <;> (try refine W_norm rfl ?_))
        | (refine W_guardF rfl (fun hc => ?_) (fun hc => ?_) <;> (try rw [hc]) <;> (try simp only [cleanS, reduceCtorEq] at hc) <;> (try (exfalso; omega)) <;> (try refine W_norm rfl ?_))
      )
      | (refine K_call ?_; first
        | (refine W_callsN 48 rfl (w48 hs hu (by omega) hg hf (by omega) (by omega) (by omega)) rfl ?_; rintro _ h ⟨u2, L2, ct2, cp2, rfl, hu2, hL2, hg2, hs2⟩; refine W_norm rfl ?_)
      )
      | (refine K_pick ?_; first
        | refine W_pick_t rfl rfl (W_norm rfl ?_)
        | refine W_pick_f rfl rfl (W_norm rfl ?_)
      )
      | (refine K_load ?_; first
        | (refine W_loadC hs 0 rfl rfl rfl ?_; refine W_norm rfl ?_)
      )
    )
    | (refine K_code ?_; first
      | (refine W_midB (a := .seq (.ops m32_r3) _) [21, 22, 23, 24, 25, 26, 27, 28, 29, 30, 31, 32, 33, 34, 35, 36, 37, 38, 39, 40, 41, 42, 43] [0, 1, 2, 3, 4, 5, 6, 7, 8, 9, 10, 11, 12, 13, 14, 15, 16, 17, 18, 19, 20, 21, 22, 23, 24, 25, 26, 27, 28, 29, 30, 31, 32, 33, 34, 35, 36, 37, 38, 39, 40, 41, 42, 43, 44, 45, 46, 47, 48, 49, 50, 51, 52, 53, 54, 55, 56, 57, 58, 59, 60, 61, 62, 63, 64, 65, 66, 67, 68, 69, 70, 71, 72, 73, 74, 75, 76, 77, 78, 79, 80, 81, 82, 83, 84, 85, 86, 87, 88, 89, 90, 91, 92, 93, 94, 95, 96, 97, 98, 99, 100, 101, 102, 103, 104, 105, 106, 107, 108, 109, 110, 111, 112, 113, 114, 115, 116, 117, 118, 119, 120, 121, 122, 123, 124, 125, 126, 127, 128, 129, 130, 131, 132, 133, 134, 135, 136, 137, 138, 139, 140, 141, 142, 143, 144, 145, 146, 147, 148, 149, 150, 151, 152, 153, 154, 155, 156, 157, 158, 159, 160, 161, 162, 163, 164, 165, 166, 167, 168, 169, 170, 171, 172, 173, 174, 175, 176, 177, 178, 179, 180, 181, 182, 183, 184, 185, 186, 187, 188, 189, 190, 191, 192, 193, 194, 195, 196, 197, 198, 199, 200, 201, 202, 203, 204, 205, 206, 207, 208, 209, 210, 211, 212, 213, 214, 215, 216, 217, 218] (fun sl h' => sl = [] ∧ PzIn R M id n 2 h') ?_ ?_)
      | refine W_seq ?_
      | refine W_ops ?_
      | refine W_cond_t rfl ?_
      | refine W_cond_f rfl ?_
      | (refine W_cond rfl (fun hc => ?_) (fun hc => ?_) <;> (try rw [hc]) <;> (try simp only [cleanS, reduceCtorEq] at hc) <;> (try (exfalso; omega)) <;> (try refine W_norm rfl ?_))
      | refine W_skip ?_
    )
    | refine seqK_n ?_
    | refine midK_n ?_)
  all_goals first
    | exact ⟨_, ⟨rfl, _, _, _, _, _, _, _, _, _, _, hs2, hu2, by omega, hg2, hf, hk, hll, hml, htl⟩, EnvB.of rfl⟩
    | exact ⟨_, ⟨rfl, _, _, _, _, _, _, _, _, _, _, hs, hu, by omega, hg, hf, hk, hll, hml, htl⟩, EnvB.of rfl⟩
    | skip
  clear hs hu hL hg hf hk hll hml htl
  rintro _ us2 _ h6 ⟨rfl, hz⟩ he
  refine W_spell he rfl ?_
  clear he
  obtain ⟨st, fin, kept, list, mids, text, u, L, ct, cp, hs, hu, hL, hg, hf, hk, hll, hml, htl⟩ := hz
  repeat' (first
    | (refine K_ops ?_; first
      | refine W_fastB rfl ?_
      | refine W_nil ?_
      | (refine K_guard ?_; first
        | refine W_guard_on rfl ?_
        | refine W_guard_off rfl rfl (W_norm rfl ?_)
        | refine W_guard_u rfl (W_norm rfl ?_)
        | (refine W_guardT rfl (fun hc => ?_) (fun hc => ?_) <;> (try rw [hc]) <;> (try simp only [cleanS, reduceCtorEq] at hc) <;> (try (exfalso; omega)) <;> (try refine W_norm rfl ?_))
        | (refine W_guardF rfl (fun hc => ?_) (fun hc => ?_) <;> (try rw [hc]) <;> (try simp only [cleanS, reduceCtorEq] at hc) <;> (try (exfalso; omega)) <;> (try refine W_norm rfl ?_))
      )
      | (refine K_pick ?_; first
        | refine W_pick_t rfl rfl (W_norm rfl ?_)
        | refine W_pick_f rfl rfl (W_norm rfl ?_)
      )
      | (refine K_load ?_; first
        | (refine W_loadC hs 0 rfl rfl rfl ?_; refine W_norm rfl ?_)
      )
      | (refine K_store ?_; first
        | (refine W_storeC hs 0 rfl rfl rfl rfl (by first | decide | assumption) rfl rfl ?_; clear hs; intro _ hs; try simp only [setS] at hs; refine W_norm rfl ?_)
      )
    )
    | (refine K_code ?_; first
      | (refine W_midB (a := .seq (.ops m32_r5) _) [44, 45, 46, 47, 48, 49, 50, 51, 52, 53, 54, 55, 56, 57, 58, 59, 60, 61, 62, 63, 64, 65, 66, 67, 68, 69, 70, 71, 72, 73, 74] [0, 1, 2, 3, 4, 5, 6, 7, 8, 9, 10, 11, 12, 13, 14, 15, 16, 17, 18, 19, 20, 21, 22, 23, 24, 25, 26, 27, 28, 29, 30, 31, 32, 33, 34, 35, 36, 37, 38, 39, 40, 41, 42, 43, 44, 45, 46, 47, 48, 49, 50, 51, 52, 53, 54, 55, 56, 57, 58, 59, 60, 61, 62, 63, 64, 65, 66, 67, 68, 69, 70, 71, 72, 73, 74, 75, 76, 77, 78, 79, 80, 81, 82, 83, 84, 85, 86, 87, 88, 89, 90, 91, 92, 93, 94, 95, 96, 97, 98, 99, 100, 101, 102, 103, 104, 105, 106, 107, 108, 109, 110, 111, 112, 113, 114, 115, 116, 117, 118, 119, 120, 121, 122, 123, 124, 125, 126, 127, 128, 129, 130, 131, 132, 133, 134, 135, 136, 137, 138, 139, 140, 141, 142, 143, 144, 145, 146, 147, 148, 149, 150, 151, 152, 153, 154, 155, 156, 157, 158, 159, 160, 161, 162, 163, 164, 165, 166, 167, 168, 169, 170, 171, 172, 173, 174, 175, 176, 177, 178, 179, 180, 181, 182, 183, 184, 185, 186, 187, 188, 189, 190, 191, 192, 193, 194, 195, 196, 197, 198, 199, 200, 201, 202, 203, 204, 205, 206, 207, 208, 209, 210, 211, 212, 213, 214, 215, 216, 217, 218] (fun sl h' => sl = [] ∧ PzIn R M id n 2 h') ?_ ?_)
      | refine W_seq ?_
      | refine W_ops ?_
      | refine W_cond_t rfl ?_
      | refine W_cond_f rfl ?_
      | (refine W_cond rfl (fun hc => ?_) (fun hc => ?_) <;> (try rw [hc]) <;> (try simp only [cleanS, reduceCtorEq] at hc) <;> (try (exfalso; omega)) <;> (try refine W_norm rfl ?_))
      | refine W_skip ?_
    )
    | refine seqK_n ?_
    | refine midK_n ?_)
  all_goals first
    | exact ⟨_, ⟨rfl, _, _, _, _, _, _, _, _, _, _, hs, hu, by omega, hg, hf, hk, hll, hml, htl⟩, EnvB.of rfl⟩
    | exact ⟨_, ⟨rfl, _, _, _, _, _, _, _, _, _, _, hs, hu, by omega, hg, hf, hk, Nat.zero_le _, Nat.zero_le _, Nat.zero_le _⟩, EnvB.of rfl⟩
    | skip
  clear hs hu hL hg hf hk hll hml htl
  rintro _ us3 _ h7 ⟨rfl, hz⟩ he
  refine W_spell he rfl ?_
  clear he
  exact w32_end hz hn ⟨rfl, rfl, rfl, rfl, rfl, trivial⟩

theorem w17 {s : List UInt8} {h0 : Heap} (hl : s.length ≤ 5000) : Wc DD 17 [.sc (.str s)] h0 fun v h' => ∃ u L ct cp, v = .sc u ∧ AccS evE 42 u L ct ∧ L.length ≤ 50000 ∧ (∀ x ∈ L, Good cp x) ∧ Sep (Now h0) [ct, cp] h' := by
  have hs := Sep.entry h0
  refine W_enter d17 ?_
  show W _ (.code m17_code [.sc (.str s), undefA, undefA, undefA, undefA, undefA, undefA, undefA, undefA, undefA, undefA, undefA, undefA, undefA, undefA, undefA, undefA, undefA, undefA, undefA, undefA, undefA, undefA, undefA] _) _
  unfold m17_code
  repeat' (first
    | (refine K_ops ?_; first
      | refine W_fastB rfl ?_
      | refine W_nil ?_
      | (refine W_boxS hs rfl rfl ?_; clear hs; intro bx _ hs; try simp only [setS] at hs; refine W_norm rfl ?_)
      | (refine W_buildN rfl ?_; refine W_norm rfl ?_)
    )
    | (refine K_code ?_; first
      | refine W_seq ?_
      | refine W_ops ?_
      | refine W_block ?_
    )
    | refine seqK_n ?_)
  rename_i h1
  have hz0 : PzIn (Now h0) [] bx 0 0 h1 := ⟨0, 0, [], [], [], [], .nils, [], [], [], by unfold pzO; exact hs.reord (fun a => by simp only [List.flatten_cons, List.flatten_nil, List.count_append, List.count_nil, hpOf_append, hpOf_cons, hpOf_nil, List.append_nil, List.eraseIdx_cons_succ, List.eraseIdx_zero, List.tail_cons] <;> omega), AccS.nil _, by simp, by simp, ⟨by decide, by decide⟩, by simp, by simp, by simp, by simp⟩
  clear hs
  refine W_loopB [4, 7, 8, 9, 10, 11, 12, 13, 14, 15, 16, 17] [0, 1, 2, 3, 4, 5, 6, 7, 8, 9, 10, 11, 12, 13, 14, 15, 16, 17, 18, 19, 20, 21, 22, 23] (fun n' sl h' => ∃ (i : Nat), sl = [(4, i64 (i : Int))] ∧ n' = s.length - i ∧ i ≤ s.length ∧ PzIn (Now h0) [] bx i 0 h') ?_ ?_
  · refine ⟨_, _, ⟨0, rfl, rfl, by omega, hz0⟩, EnvB.of rfl⟩
  clear hz0
  rintro _ _ us2 _ h5 ⟨i, rfl, rfl, hi, hz⟩ he
  refine W_spell he rfl ?_
  clear he
  unfold m17_l3
  by_cases hlt : i < s.length
  · repeat' (first
      | (refine K_ops ?_; first
        | refine W_fastB rfl ?_
        | refine W_nil ?_
        | (refine K_call ?_; first
          | (refine W_callsN 32 rfl (w32 (b := s.getD (i : Int).toNat 0) hz (by omega)) rfl ?_; rintro _ h ⟨rfl, hz2⟩; refine W_norm rfl ?_)
        )
        | (refine K_bin ?_; first
          | (refine W_add rfl rfl (IntWalk.i64_in _ (by first | omega | (simp only [lenS]; omega))) ?_; refine W_norm rfl ?_)
        )
        | (refine W_idxStr rfl rfl ⟨(by first | omega | (simp only [lenS]; omega)), (by first | omega | (simp only [lenS]; omega))⟩ ?_; refine W_norm rfl ?_)
      )
      | (refine K_code ?_; first
        | refine W_seq ?_
        | refine W_ops ?_
        | (refine W_cond rfl (fun hc => ?_) (fun hc => ?_) <;> (try rw [hc]) <;> (try simp only [cleanS, reduceCtorEq] at hc) <;> (try (exfalso; omega)) <;> (try refine W_norm rfl ?_))
        | refine W_skip ?_
        | refine W_block ?_
      )
      | refine seqK_n ?_
      | refine blockK_n ?_
      | refine invK_n ?_)
    refine ⟨_, ?_, _, ⟨i + 1, rfl, rfl, ?_, hz2⟩, EnvB.of rfl⟩ <;> omega
  · obtain rfl : i = s.length := by omega
    obtain ⟨st, fin, kept, list, mids, text, u, L, ct, cp, hs, hu, hL, hg, hf, hk, hll, hml, htl⟩ := hz
    repeat' (first
      | (refine K_ops ?_; first
        | refine W_fastB rfl ?_
        | refine W_nil ?_
        | (refine K_call ?_; first
          | (refine W_callsN 33 rfl (w33 hs hu (by omega) hg) rfl ?_; rintro _ h ⟨u2, L2, ct2, rfl, hu2, hL2, hg2, hs2⟩; replace hs := hs2; clear hs2; refine W_norm rfl ?_)
        )
        | (refine K_load ?_; first
          | (refine W_loadC hs 0 rfl rfl rfl ?_; refine W_norm rfl ?_)
        )
      )
      | (refine K_code ?_; first
        | refine W_seq ?_
        | refine W_ops ?_
        | (refine W_cond rfl (fun hc => ?_) (fun hc => ?_) <;> (try rw [hc]) <;> (try simp only [cleanS, reduceCtorEq] at hc) <;> (try (exfalso; omega)) <;> (try refine W_norm rfl ?_))
        | refine W_ret ?_
        | refine W_exit ?_
      )
      | refine seqK_n ?_
      | refine seqK_x ?_
      | refine blockK_e ?_
      | refine invK_x ?_
      | (refine fnK_r rfl ?_; try dsimp only [gd_z, gd_s]))
    exact ⟨_, rfl, _, _, _, _, rfl, hu2, by omega, hg2, hs.drop 0⟩

theorem w8s (h : Heap) : Wc DD 8 [] h fun v h' => v = .sc (.bool true) ∧ h' = h := W_known rfl
def flowES : El Flow := ⟨3, flowC, fun l => match l with | [.int _ a, .int _ b, .str c] => (a, b, c) | _ => (0, 0, []), (0, 0, []), fun _ => rfl, by decide, fun _ => rfl⟩
theorem flowES_fits (x : Flow) : fits [.int .i64, .int .i64, .str] (flowES.enc x) = true := rfl
/-- The law GateStreams. -/
theorem w6 {s : List UInt8} {h0 : Heap} : Wc DD 6 [.sc (.str s)] h0 fun v h' => v = bo true := by
  have hs := Sep.entry h0
  refine W_enter d6 ?_
  show W _ (.code m6_code [.sc (.str s), undefA, undefA, undefA, undefA, undefA, undefA, undefA, undefA, undefA, undefA, undefA, undefA, undefA, undefA, undefA, undefA, undefA, undefA, undefA, undefA, undefA, undefA, undefA, undefA, undefA, undefA, undefA, undefA] _) _
  unfold m6_code
  by_cases hlen : s.length ≤ 5000
  · repeat' (first
      | (refine K_ops ?_; first
        | refine W_fastB rfl ?_
        | refine W_nil ?_
        | (refine K_call ?_; first
          | (refine W_callsN 8 rfl (w8s _) rfl ?_; rintro _ h ⟨rfl, rfl⟩; refine W_norm rfl ?_)
          | (refine W_callsN 17 rfl (w17 (s := s) hlen) rfl ?_; rintro _ h2 ⟨u, L, ct, cp, rfl, hu, hL, hg, t⟩; replace hs := hs.call t; try simp only [setS] at hs; refine W_norm rfl ?_)
        )
      )
      | (refine K_code ?_; first
        | refine W_seq ?_
        | refine W_ops ?_
        | refine W_cond_f rfl ?_
        | (refine W_cond rfl (fun hc => ?_) (fun hc => ?_) <;> (try rw [hc]) <;> (try simp only [cleanS, reduceCtorEq] at hc) <;> (try (exfalso; omega)) <;> (try refine W_norm rfl ?_))
        | refine W_skip ?_
        | refine W_block ?_
      )
      | refine seqK_n ?_)
    have hln := hu.ln
    replace hu := hu.add (Now h)
    replace hs := hs.freeze 0 rfl
    simp only [List.eraseIdx_zero, List.tail_cons] at hs
    replace hu := hu.add cp
    replace hs := hs.freeze 0 rfl
    simp only [List.eraseIdx_zero, List.tail_cons] at hs
    have hcp : ∀ x ∈ cp, (((Now h).add ct).add cp) x.1 x.2 := fun x hx => .inr hx
    generalize hR : ((Now h).add ct).add cp = R at *
    clear t hR
    refine W_loopB [2, 4, 12, 13, 14, 15, 16, 17, 18, 19, 20, 21, 22, 23, 24, 25, 26, 27, 28] [0, 1, 2, 3, 4, 5, 6, 7, 8, 9, 10, 11, 12, 13, 14, 15, 16, 17, 18, 19, 20, 21, 22, 23, 24, 25, 26, 27, 28] (fun n' sl h' => ∃ (i : Nat), sl = [(4, i64 (i : Int))] ∧ n' = L.length - i ∧ i ≤ L.length ∧ Sep R [] h') ?_ ?_
    · refine ⟨_, _, ⟨0, rfl, rfl, by omega, hs⟩, EnvB.of rfl⟩
    clear hs
    rintro _ _ us2 _ h5 ⟨i, rfl, rfl, hi, hs⟩ he
    refine W_spell he rfl ?_
    clear he
    unfold m6_l7
    by_cases hlt : i < L.length
    · have hgi := hg _ (getD_mem (d := es0) hlt)
      have hee : L.getD (i : Int).toNat evE.dflt = L.getD i es0 := rfl
      generalize hX : L.getD i es0 = X at *
      obtain ⟨k, r, f, m, p, tx⟩ := X
      obtain ⟨g1, g2, g3, P, g4, g5⟩ := hgi
      simp only at g1 g2 g3 g4
      have hp := g4 R hcp
      obtain ⟨f, rfl⟩ : ∃ f' : UInt8, f = (f'.toNat : Int) := ⟨UInt8.ofNat f.toNat, by rw [UInt8.toNat_ofNat']; omega⟩
      have hsh : Short P := g5
      obtain ⟨x, hx⟩ : ∃ x, classL k f m (P.map Prod.snd) tx = x := ⟨_, rfl⟩
      have hev : evE.enc (L.getD (i : Int).toNat evE.dflt) = [.int .i64 k, .int .i32 r, .int .u8 (f.toNat : Int), .str m, p, .str tx] := by rw [hee]; rfl
      repeat' (first
        | (refine K_ops ?_; first
          | refine W_fastB rfl ?_
          | refine W_nil ?_
          | (refine W_loadRA hs rfl (by assumption) rfl ?_; rw [hev]; refine W_norm rfl ?_)
          | (refine K_call ?_; first
            | (refine W_callsN 9 rfl (w9 (k := k) (r := r) (f := f) (m := m) (tx := tx) (hp.now hs) hsh g2 g3) rfl ?_; rintro _ h ⟨rfl, t⟩; rw [hx]; unfold flowC; have hs := hs.call t; try simp only [setS] at hs; refine W_norm rfl ?_)
            | (refine W_callsN 15 rfl (w15 (k := k) (r := r) (f := f) (m := m) (tx := tx) (hp.now hs) hsh g3) rfl ?_; rintro _ h ⟨rfl, t⟩; rw [hx]; unfold flowC; have hs := hs.call t; try simp only [setS] at hs; refine W_norm rfl ?_)
          )
          | (refine W_lenL rfl (by first | assumption | exact SlR.ln (by assumption) | exact AccS.ln (by assumption) | exact OwnS.ln (by assumption) | exact VwO.ln (by assumption) | exact OwnP.ln (by assumption) | exact Len.sl) ?_; refine W_norm rfl ?_)
          | (refine K_bin ?_; first
            | (refine W_add rfl rfl (IntWalk.i64_in _ (by first | omega | (simp only [lenS]; omega))) ?_; refine W_norm rfl ?_)
            | (refine W_neE flowES rfl rfl rfl rfl flowES_fits ?_; refine W_norm rfl ?_)
          )
          | (refine K_index ?_; first
            | (refine W_indexR rfl rfl (by assumption) rfl ⟨(by first | omega | (simp only [lenS]; omega)), (by first | omega | (simp only [lenS]; omega))⟩ ?_; intro _ _ _; refine W_norm rfl ?_)
          )
        )
        | (refine K_code ?_; first
          | refine W_seq ?_
          | refine W_ops ?_
          | (refine W_cond rfl (fun hc => ?_) (fun hc => ?_) <;> (try rw [hc]) <;> (try simp only [cleanS, reduceCtorEq] at hc) <;> (try (exfalso; omega)) <;> (try refine W_norm rfl ?_))
          | refine W_skip ?_
          | refine W_block ?_
          | refine W_draws ?_
        )
        | refine W_dstep rfl ?_
        | refine ⟨rfl, fun rc hrec => ?_⟩
        | (refine W_dnilS (by simp only [List.reverse_cons, List.reverse_nil, List.nil_append, List.cons_append]; rfl) (by repeat' first | exact CL_nil _ _ | refine CL_skip rfl ?_ | refine CL_none (by assumption) rfl ?_ | refine CL_load (by assumption) rfl (by first | exact trivial | (repeat' first | exact trivial | refine ⟨⟨_, rfl, (by refine (congrArg (fun x => Heap.get x _) (RecIs.hh (by assumption))).trans ?_; first | rfl | exact PtR.same_get (by assumption) (by assumption) (by assumption) | exact Sep.same_get (by assumption) (by assumption) 0 0 rfl rfl | exact Sep.same_get (by assumption) (by assumption) 0 1 rfl rfl | exact Sep.same_get (by assumption) (by assumption) 0 2 rfl rfl | exact Sep.same_get (by assumption) (by assumption) 1 0 rfl rfl | exact Sep.same_get (by assumption) (by assumption) 1 1 rfl rfl | exact Sep.same_get (by assumption) (by assumption) 1 2 rfl rfl | exact Sep.same_get (by assumption) (by assumption) 2 0 rfl rfl | exact Sep.same_get (by assumption) (by assumption) 2 1 rfl rfl | exact Sep.same_get (by assumption) (by assumption) 2 2 rfl rfl)⟩, ?_⟩)) (by first | exact trivial | (repeat' first | exact trivial | refine ⟨⟨_, rfl, (by refine (congrArg (fun x => Heap.get x _) (RecIs.hh' (by assumption))).trans ?_; first | rfl | exact PtR.same_get (by assumption) (by assumption) (by assumption) | exact Sep.same_get (by assumption) (by assumption) 0 0 rfl rfl | exact Sep.same_get (by assumption) (by assumption) 0 1 rfl rfl | exact Sep.same_get (by assumption) (by assumption) 0 2 rfl rfl | exact Sep.same_get (by assumption) (by assumption) 1 0 rfl rfl | exact Sep.same_get (by assumption) (by assumption) 1 1 rfl rfl | exact Sep.same_get (by assumption) (by assumption) 1 2 rfl rfl | exact Sep.same_get (by assumption) (by assumption) 2 0 rfl rfl | exact Sep.same_get (by assumption) (by assumption) 2 1 rfl rfl | exact Sep.same_get (by assumption) (by assumption) 2 2 rfl rfl)⟩, ?_⟩)) ?_) ?_)
        | refine seqK_n ?_
        | refine blockK_n ?_
        | refine invK_n ?_)
      all_goals first
        | (refine ⟨_, ?_, _, ⟨i + 1, rfl, rfl, ?_, hs⟩, EnvB.of rfl⟩ <;> omega)
        | exact absurd rfl hc
        | skip
    · repeat' (first
        | (refine K_ops ?_; first
          | refine W_fastB rfl ?_
          | refine W_nil ?_
          | (refine W_lenL rfl (by first | assumption | exact SlR.ln (by assumption) | exact AccS.ln (by assumption) | exact OwnS.ln (by assumption) | exact VwO.ln (by assumption) | exact OwnP.ln (by assumption) | exact Len.sl) ?_; refine W_norm rfl ?_)
        )
        | (refine K_code ?_; first
          | refine W_seq ?_
          | refine W_ops ?_
          | (refine W_cond rfl (fun hc => ?_) (fun hc => ?_) <;> (try rw [hc]) <;> (try simp only [cleanS, reduceCtorEq] at hc) <;> (try (exfalso; omega)) <;> (try refine W_norm rfl ?_))
          | refine W_ret ?_
          | refine W_exit ?_
        )
        | refine seqK_n ?_
        | refine seqK_x ?_
        | refine blockK_e ?_
        | refine invK_x ?_
        | (refine fnK_r rfl ?_; try dsimp only [gd_z, gd_s]))
      exact ⟨_, rfl, rfl⟩
  · repeat' (first
      | (refine K_ops ?_; first
        | refine W_fastB rfl ?_
        | refine W_nil ?_
        | (refine K_call ?_; first
          | (refine W_callsN 8 rfl (w8s _) rfl ?_; rintro _ h ⟨rfl, rfl⟩; refine W_norm rfl ?_)
        )
      )
      | (refine K_code ?_; first
        | refine W_seq ?_
        | refine W_ops ?_
        | refine W_cond_f rfl ?_
        | (refine W_cond rfl (fun hc => ?_) (fun hc => ?_) <;> (try rw [hc]) <;> (try simp only [cleanS, reduceCtorEq] at hc) <;> (try (exfalso; omega)) <;> (try refine W_norm rfl ?_))
        | refine W_skip ?_
        | refine W_ret ?_
      )
      | refine seqK_n ?_
      | refine seqK_r ?_
      | (refine fnK_r rfl ?_; try dsimp only [gd_z, gd_s]))
    exact ⟨_, rfl, rfl⟩
theorem walk_gateStreams (H : Heap) (avs : List AV) (hwf : H.l.length = H.n) (hs : Sub (HL Tryd.prog.globals.size jxLs) H) (ho : OpenA H [(false, [.str])] avs) : W DD (.call 6 avs H) (fun _ vs _ => vs = [.sc (.bool true)]) := by
  simp only [OpenA] at ho
  obtain ⟨_, _, _, hk, rfl, o1, rfl⟩ := ho
  cases hk
  simp only [OpenS] at o1
  obtain ⟨a, rfl, ha⟩ := o1
  exact w6.mono fun _ _ _ ⟨v, hv, h3⟩ => by rw [hv, h3]
end Go.Proofs.YtggkbkbhegcbkaaDoor
