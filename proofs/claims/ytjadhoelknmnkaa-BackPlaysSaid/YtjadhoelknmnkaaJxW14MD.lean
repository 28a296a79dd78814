import Derived.Test.YtjadhoelknmnkaaJxC14
import Derived.Test.YtjadhoelknmnkaaJxW10
import Derived.Test.YtjadhoelknmnkaaJxE14
/- A back's ring. -/
set_option linter.unusedSimpArgs false
set_option linter.unusedVariables false
set_option maxHeartbeats 1000000
set_option maxRecDepth 100000
namespace Go.Proofs.Ytjadhoelknmnkaa
open Go Go.Jx

abbrev i64 (n : Int) : AV := .sc (.int .i64 n)
abbrev bo (b : Bool) : AV := .sc (.bool b)
abbrev intE : El Int := intEl .i64
structure Bk where
  max : Int
  r : List Int
  a : Nat
  L : List Int
  g : Int
structure BkI (b : Bk) : Prop where
  m0 : 0 ≤ b.max
  m1 : b.max ≤ 500
  rl : (b.r.length : Int) ≤ b.max
  ll : b.L.length ≤ b.r.length
  al : b.a < b.r.length ∨ (b.r.length = 0 ∧ b.a = 0)
  ring : ∀ i, i < b.L.length → b.r.getD ((b.a + i) % b.r.length) 0 = b.L.getD i 0
  g0 : 0 ≤ b.g
  g1 : b.g ≤ 1000000
abbrev bkO (id : Nat) (rv : SV) (b : Bk) : Hp := [(id, .cells 54 .own [.bool true, .int .i64 b.max, rv, .int .i64 (b.a : Int), .int .i64 (b.L.length : Int), .int .i64 b.g])]
theorem w30 {R : Ro} {M : List Hp} {h : Heap} {id : Nat} {rv : SV} {b : Bk} (hs : Sep R (bkO id rv b :: M) h) : Wc DD 30 [.sc (.ptr id 0)] h fun w h' => w = bo false ∧ h' = h := by
  refine W_enter d30 ?_
  show W _ (.code m30_code [.sc (.ptr id 0), undefA, undefA, undefA, undefA, undefA, undefA, undefA, undefA, undefA, undefA, undefA] _) _
  unfold m30_code
  repeat' (first
    | (refine K_ops ?_; first
      | refine W_fastB rfl ?_
      | refine W_nil ?_
      | (refine K_guard ?_; first
        | refine W_guard_on rfl ?_
      )
      | (refine K_bin ?_; first
        | (refine W_nil_ptr_f rfl rfl rfl ?_; refine W_norm rfl ?_)
      )
      | (refine K_pick ?_; first
        | refine W_pick_f rfl rfl (W_norm rfl ?_)
      )
      | (refine K_load ?_; first
        | (refine W_loadC hs 0 rfl rfl rfl ?_; refine W_norm rfl ?_)
      )
    )
    | (refine K_code ?_; first
      | refine W_seq ?_
      | refine W_ops ?_
      | refine W_ret ?_
    )
    | refine seqK_n ?_
    | (refine fnK_r rfl ?_; try dsimp only [gd_z, gd_s]))
  exact ⟨_, rfl, rfl, rfl⟩
theorem w22 {R : Ro} {M : List Hp} {h : Heap} {id : Nat} {rv : SV} {b : Bk} (hs : Sep R (bkO id rv b :: M) h) : Wc DD 22 [.sc (.ptr id 0)] h fun w h' => w = i64 (b.L.length : Int) ∧ h' = h := by
  refine W_enter d22 ?_
  show W _ (.code m22_code [.sc (.ptr id 0), undefA, undefA, undefA, undefA, undefA, undefA, undefA, undefA] _) _
  unfold m22_code
  repeat' (first
    | (refine K_ops ?_; first
      | refine W_fastB rfl ?_
      | refine W_nil ?_
      | (refine K_call ?_; first
        | (refine W_callsN 30 rfl (w30 hs) rfl ?_; rintro _ h ⟨rfl, rfl⟩; refine W_norm rfl ?_)
      )
      | (refine K_load ?_; first
        | (refine W_loadC hs 0 rfl rfl rfl ?_; refine W_norm rfl ?_)
      )
    )
    | (refine K_code ?_; first
      | refine W_seq ?_
      | refine W_ops ?_
      | refine W_cond_f rfl ?_
      | refine W_skip ?_
      | refine W_ret ?_
    )
    | refine seqK_n ?_
    | (refine fnK_r rfl ?_; try dsimp only [gd_z, gd_s]))
  exact ⟨_, rfl, rfl, rfl⟩
theorem w23 {R : Ro} {M : List Hp} {h : Heap} {id : Nat} {rv : SV} {b : Bk} (hs : Sep R (bkO id rv b :: M) h) : Wc DD 23 [.sc (.ptr id 0)] h fun w h' => w = i64 b.g ∧ h' = h := by
  refine W_enter d23 ?_
  show W _ (.code m23_code [.sc (.ptr id 0), undefA, undefA, undefA, undefA, undefA, undefA, undefA, undefA] _) _
  unfold m23_code
  repeat' (first
    | (refine K_ops ?_; first
      | refine W_fastB rfl ?_
      | refine W_nil ?_
      | (refine K_call ?_; first
        | (refine W_callsN 30 rfl (w30 hs) rfl ?_; rintro _ h ⟨rfl, rfl⟩; refine W_norm rfl ?_)
      )
      | (refine K_load ?_; first
        | (refine W_loadC hs 0 rfl rfl rfl ?_; refine W_norm rfl ?_)
      )
    )
    | (refine K_code ?_; first
      | refine W_seq ?_
      | refine W_ops ?_
      | refine W_cond_f rfl ?_
      | refine W_skip ?_
      | refine W_ret ?_
    )
    | refine seqK_n ?_
    | (refine fnK_r rfl ?_; try dsimp only [gd_z, gd_s]))
  exact ⟨_, rfl, rfl, rfl⟩
theorem w32 {R : Ro} {M : List Hp} {h : Heap} {id n a : Nat} {rv mx mn g : SV} {i : Int} (hs : Sep R ([(id, .cells 54 .own [.bool true, mx, rv, .int .i64 (a : Int), mn, g])] :: M) h) (hl : Len rv n) (hn : 0 < n) (hb : 0 ≤ i ∧ i ≤ 10000) (ha : a ≤ 10000) (hn2 : n ≤ 10000) :
    Wc DD 32 [.sc (.ptr id 0), i64 i] h fun w h' => w = i64 ((((a + i.toNat) % n : Nat)) : Int) ∧ h' = h := by
  refine W_enter d32 ?_
  show W _ (.code m32_code [.sc (.ptr id 0), i64 i, undefA, undefA, undefA, undefA, undefA, undefA, undefA, undefA, undefA, undefA, undefA, undefA, undefA, undefA, undefA] _) _
  unfold m32_code
  repeat' (first
    | (refine K_ops ?_; first
      | refine W_fastB rfl ?_
      | refine W_nil ?_
      | (refine W_rem rfl rfl (by omega) ?_; refine W_norm rfl ?_)
      | (refine W_lenL rfl (by first | assumption | exact SlR.ln (by assumption) | exact AccS.ln (by assumption) | exact OwnS.ln (by assumption) | exact VwO.ln (by assumption) | exact OwnP.ln (by assumption) | exact Len.sl) ?_; refine W_norm rfl ?_)
      | (refine K_bin ?_; first
        | (refine W_add rfl rfl (IntWalk.i64_in _ (by first | omega | (simp only [List.length_set, List.length_append, List.length_take, List.length_drop, List.length_replicate, List.length_cons, List.length_nil, decs_length, List.length_map]; omega))) ?_; refine W_norm rfl ?_)
      )
      | (refine K_load ?_; first
        | (refine W_loadC hs 0 rfl rfl rfl ?_; refine W_norm rfl ?_)
      )
    )
    | (refine K_code ?_; first
      | refine W_seq ?_
      | refine W_ops ?_
      | refine W_ret ?_
      | refine W_draw rfl ?_
    )
    | refine seqK_n ?_
    | (refine fnK_r rfl ?_; try dsimp only [gd_z, gd_s]))
  refine ⟨_, rfl, ?_, rfl⟩
  rw [Int.tmod_eq_emod_of_nonneg (by omega)]; congr 2
  have : i = (i.toNat : Int) := by omega
  rw [this]; push_cast; rfl
theorem w12 {p : SV} {h : Heap} : Wc DD 12 [.sc p] h fun w h' => ∃ ib, w = .sc (.func 33 [(ib, 0)]) ∧ Sep (Now h) [[(ib, .cells 24 .own [p])]] h' := by
  have hs := Sep.entry h
  refine W_enter d12 ?_
  show W _ (.code m12_code [.sc p, undefA, undefA, undefA] _) _
  unfold m12_code
  repeat' (first
    | (refine K_ops ?_; first
      | refine W_fastB rfl ?_
      | refine W_nil ?_
      | (refine W_boxS hs rfl rfl ?_; clear hs; intro bx _ hs; try simp only [cell_back, attr_back, List.set_cons_zero, List.set_cons_succ, List.eraseIdx_cons_succ, List.eraseIdx_zero, List.tail_cons, List.nil_append, List.cons_append] at hs; refine W_norm rfl ?_)
    )
    | (refine K_code ?_; first
      | refine W_seq ?_
      | refine W_ops ?_
      | refine W_ret ?_
    )
    | refine seqK_n ?_
    | (refine fnK_r rfl ?_; try dsimp only [gd_z, gd_s]))
  exact ⟨_, rfl, _, rfl, hs⟩
theorem w9 {n : Int} {h : Heap} (hn : -9223372036854775808 ≤ n ∧ n ≤ 9223372036854775807) : Wc DD 9 [i64 n] h fun w h' => (¬ (0 ≤ n ∧ n ≤ 500) ∧ w = .tup [.sc .nilp, i64 1] ∧ h' = h) ∨
    ((0 ≤ n ∧ n ≤ 500) ∧ ∃ id, w = .tup [.sc (.ptr id 0), i64 0] ∧ BkI ⟨n, [], 0, [], 0⟩ ∧ Sep (Now h) [bkO id .nils ⟨n, [], 0, [], 0⟩] h') := by
  have hs := Sep.entry h
  refine W_enter d9 ?_
  show W _ (.code m9_code [i64 n, undefA, undefA, undefA, undefA, undefA, undefA, undefA, undefA, undefA, undefA, undefA, undefA] _) _
  unfold m9_code
  repeat' (first
    | (refine K_ops ?_; first
      | refine W_fastB rfl ?_
      | refine W_nil ?_
      | (refine K_guard ?_; first
        | refine W_guard_on rfl ?_
        | refine W_guard_off rfl rfl (W_norm rfl ?_)
        | (refine W_guardF rfl (fun hc => ?_) (fun hc => ?_) <;> (try rw [hc]) <;> (try simp only [decide_eq_true_eq, decide_eq_false_iff_not, beq_iff_eq, beq_eq_false_iff_ne, bne_iff_ne, bne_eq_false_iff_eq, Bool.not_eq_true', Bool.not_eq_false', Int.not_lt, Int.not_le, ne_eq, reduceCtorEq, not_true_eq_false, not_false_eq_true, Decidable.not_not] at hc) <;> (try (exfalso; omega)) <;> (try refine W_norm rfl ?_))
      )
      | (refine K_pick ?_; first
        | refine W_pick_t rfl rfl (W_norm rfl ?_)
        | refine W_pick_f rfl rfl (W_norm rfl ?_)
      )
      | (refine W_boxS hs rfl rfl ?_; clear hs; intro bx _ hs; try simp only [cell_back, attr_back, List.set_cons_zero, List.set_cons_succ, List.eraseIdx_cons_succ, List.eraseIdx_zero, List.tail_cons, List.nil_append, List.cons_append] at hs; refine W_norm rfl ?_)
      | (refine W_buildN rfl ?_; refine W_norm rfl ?_)
    )
    | (refine K_code ?_; first
      | refine W_seq ?_
      | refine W_ops ?_
      | refine W_cond_t rfl ?_
      | (refine W_cond rfl (fun hc => ?_) (fun hc => ?_) <;> (try rw [hc]) <;> (try simp only [decide_eq_true_eq, decide_eq_false_iff_not, beq_iff_eq, beq_eq_false_iff_ne, bne_iff_ne, bne_eq_false_iff_eq, Bool.not_eq_true', Bool.not_eq_false', Int.not_lt, Int.not_le, ne_eq, reduceCtorEq, not_true_eq_false, not_false_eq_true, Decidable.not_not] at hc) <;> (try (exfalso; omega)) <;> (try refine W_norm rfl ?_))
      | refine W_skip ?_
      | refine W_ret ?_
    )
    | refine seqK_n ?_
    | refine seqK_r ?_
    | (refine fnK_r rfl ?_; try dsimp only [gd_z, gd_s]))
  all_goals first
    | exact ⟨_, rfl, .inl ⟨by omega, rfl, rfl⟩⟩
    | exact ⟨_, rfl, .inr ⟨⟨by omega, by omega⟩, _, rfl, ⟨by simp only; omega, by simp only; omega, by simp only [List.length_nil]; omega, by simp, .inr ⟨rfl, rfl⟩, fun i hi => by simp at hi, by simp, by simp⟩, hs⟩⟩
end Go.Proofs.Ytjadhoelknmnkaa
/- A back's ring: put and popped. -/
set_option linter.unusedSimpArgs false
set_option linter.unusedVariables false
set_option maxHeartbeats 1000000
set_option maxRecDepth 100000
namespace Go.Proofs.Ytjadhoelknmnkaa
open Go Go.Jx

theorem mod_small {a n : Nat} (h : a < n) : a % n = a := Nat.mod_eq_of_lt h
theorem mod_wrap {a n : Nat} (h1 : n ≤ a) (h2 : a < 2 * n) : a % n = a - n := by
  rw [Nat.mod_eq_sub_mod h1, Nat.mod_eq_of_lt (by omega)]
theorem mod_cases {a n : Nat} (h2 : a < 2 * n) : a % n = if a < n then a else a - n := by
  split
  · exact mod_small (by assumption)
  · exact mod_wrap (by omega) h2
theorem getD_set' {α : Type} {l : List α} {i j : Nat} {x d : α} : (l.set i x).getD j d = if j = i ∧ i < l.length then x else l.getD j d := by
  rw [List.getD_eq_getElem?_getD, List.getElem?_set]
  by_cases h : i = j
  · subst h
    by_cases hl : i < l.length
    · simp [hl]
    · simp [hl]
  · rw [if_neg h, if_neg (fun hh => h hh.1.symm), List.getD_eq_getElem?_getD]
theorem getD_app {α : Type} {l m : List α} {j : Nat} {d : α} : (l ++ m).getD j d = if j < l.length then l.getD j d else m.getD (j - l.length) d := by
  rw [List.getD_eq_getElem?_getD, List.getElem?_append]
  split <;> rw [List.getD_eq_getElem?_getD]
theorem getD_drop1 {l : List Int} {j : Nat} : (l.drop 1).getD j 0 = l.getD (j + 1) 0 := by
  rw [List.getD_eq_getElem?_getD, List.getElem?_drop, List.getD_eq_getElem?_getD, Nat.add_comm]

/-- Its ring, grown. -/
theorem w31 {R : Ro} {M : List Hp} {h : Heap} {id : Nat} {rv : SV} {b : Bk} {c : Hp} (hs : Sep R (bkO id rv b :: c :: M) h) (ha : AccS intE 3 rv b.r c) (I : BkI b) (he : b.L.length = b.r.length) (hlt : (b.r.length : Int) < b.max) :
    Wc DD 31 [.sc (.ptr id 0)] h fun w h' => w = .tup [] ∧ ∃ rv' r' c', AccS intE 3 rv' r' c' ∧ BkI { b with r := r', a := 0 } ∧ b.L.length < r'.length ∧ Sep R (bkO id rv' { b with r := r', a := 0 } :: c' :: M) h' := by
  have I0 := I
  obtain ⟨m0, m1, rl, ll, al, ring, g0, g1⟩ := I0
  obtain ⟨n, hn⟩ : ∃ n : Nat, min b.max (2 * (b.L.length : Int) + 4) = (n : Int) := ⟨(min b.max (2 * (b.L.length : Int) + 4)).toNat, by omega⟩
  have hn1 : b.L.length < n := by omega
  have hn2 : (n : Int) ≤ b.max := by omega
  have hrl := ha.ln
  refine W_enter d31 ?_
  show W _ (.code m31_code [.sc (.ptr id 0), undefA, undefA, undefA, undefA, undefA, undefA, undefA, undefA, undefA, undefA, undefA, undefA, undefA, undefA, undefA, undefA, undefA, undefA, undefA, undefA, undefA, undefA, undefA, undefA, undefA, undefA, undefA, undefA, undefA, undefA, undefA, undefA, undefA, undefA, undefA, undefA, undefA, undefA, undefA, undefA, undefA, undefA] _) _
  unfold m31_code
  repeat' (first
    | (refine K_ops ?_; first
      | refine W_fastB rfl ?_
      | refine W_nil ?_
      | (refine K_bin ?_; first
        | (refine W_add rfl rfl (IntWalk.i64_in _ (by first | omega | (simp only [List.length_set, List.length_append, List.length_take, List.length_drop, List.length_replicate, List.length_cons, List.length_nil, decs_length, List.length_map]; omega))) ?_; refine W_norm rfl ?_)
        | (refine W_mul rfl rfl (IntWalk.i64_in _ (by first | omega | (simp only [List.length_set, List.length_append, List.length_take, List.length_drop, List.length_replicate, List.length_cons, List.length_nil, decs_length, List.length_map]; omega))) ?_; refine W_norm rfl ?_)
      )
      | (refine K_load ?_; first
        | (refine W_loadC hs 0 rfl rfl rfl ?_; refine W_norm rfl ?_)
      )
      | (refine K_make ?_; first
        | (refine W_makeS intE hs rfl rfl (by first | omega | (simp only [List.length_set, List.length_append, List.length_take, List.length_drop, List.length_replicate, List.length_cons, List.length_nil, decs_length, List.length_map]; omega)) ⟨(by first | omega | (simp only [List.length_set, List.length_append, List.length_take, List.length_drop, List.length_replicate, List.length_cons, List.length_nil, decs_length, List.length_map]; omega)), (by first | omega | (simp only [List.length_set, List.length_append, List.length_take, List.length_drop, List.length_replicate, List.length_cons, List.length_nil, decs_length, List.length_map]; omega))⟩ rfl ?_; clear hs; intro _ _ hs; try simp only [cell_back, attr_back, List.set_cons_zero, List.set_cons_succ, List.eraseIdx_cons_succ, List.eraseIdx_zero, List.tail_cons, List.nil_append, List.cons_append] at hs; refine W_norm rfl ?_)
      )
      | (refine W_min2 rfl rfl ?_; refine W_norm rfl ?_)
    )
    | (refine K_code ?_; first
      | (refine W_midB (a := .draw m31_r0) [2, 4, 5, 6, 7, 8, 9, 10, 11, 12, 13, 14, 15] [0, 1, 2, 3, 4, 5, 6, 7, 8, 9, 10, 11, 12, 13, 14, 15, 16, 17, 18, 19, 20, 21, 22, 23, 24, 25, 26, 27, 28, 29, 30, 31, 32, 33, 34, 35, 36, 37, 38, 39, 40, 41, 42] (fun sl h' => ∃ (il : Nat), sl = [(2, .sc (.slice il 0 n n))] ∧ Sep R ([(il, .cells 3 .own ((List.replicate n (0 : Int)).flatMap intE.enc))] :: bkO id rv b :: c :: M) h') ?_ ?_)
      | refine W_draw rfl ?_
    )
    | refine midK_n ?_)
  · rw [hn, Int.toNat_natCast] at hs
    rw [hn, Int.toNat_natCast]
    exact ⟨_, ⟨_, rfl, hs⟩, EnvB.of rfl⟩
  clear hs
  rintro _ us _ h2 ⟨il, rfl, hs⟩ he'
  refine W_spell he' rfl ?_
  clear he'
  repeat' (first
    | (refine K_ops ?_; first
      | refine W_fastB rfl ?_
      | refine W_nil ?_
      | (refine K_load ?_; first
        | (refine W_loadC hs 1 rfl rfl rfl ?_; refine W_norm rfl ?_)
      )
    )
    | (refine K_code ?_; first
      | refine W_seq ?_
      | refine W_ops ?_
      | refine W_block ?_
    )
    | refine seqK_n ?_)
  refine W_loopB [3, 20, 21, 22, 23, 24, 25, 26, 27, 28, 29, 30, 31, 32, 33, 34, 35] [0, 1, 2, 3, 4, 5, 6, 7, 8, 9, 10, 11, 12, 13, 14, 15, 16, 17, 18, 19, 20, 21, 22, 23, 24, 25, 26, 27, 28, 29, 30, 31, 32, 33, 34, 35, 36, 37, 38, 39, 40, 41, 42] (fun n' sl h' => ∃ (k : Nat), sl = [(20, .sc (.int .i64 (k : Int)))] ∧ n' = b.L.length - k ∧ k ≤ b.L.length ∧ Sep R ([(il, .cells 3 .own ((b.L.take k ++ List.replicate (n - k) (0 : Int)).flatMap intE.enc))] :: bkO id rv b :: c :: M) h') ?_ ?_
  · refine ⟨_, _, ⟨0, rfl, rfl, Nat.zero_le _, hs⟩, EnvB.of rfl⟩
  clear hs
  rintro _ _ us2 _ h3 ⟨k, rfl, rfl, hk, hs⟩ he'
  refine W_spell he' rfl ?_
  clear he'
  unfold m31_l2
  have hlen : (b.L.take k ++ List.replicate (n - k) (0 : Int)).length = n := by simp; omega
  by_cases hkl : k < b.L.length
  · obtain ⟨idr, kd, rfl, rfl, hkd⟩ := ha.pos (by omega)
    have hmod : (b.a + k) % b.r.length < b.r.length := Nat.mod_lt _ (by omega)
    have hrg := ring k hkl
    have eset : (b.L.take k ++ List.replicate (n - k) (0 : Int)).set k (b.L.getD k 0) = b.L.take (k + 1) ++ List.replicate (n - (k + 1)) 0 := by
      have hd : n - k = (n - (k + 1)) + 1 := by omega
      rw [List.set_append_right _ _ (by simp; omega), List.length_take, Nat.min_eq_left (by omega), Nat.sub_self, hd, List.replicate_succ, List.set_cons_zero, List.take_add_one, getD_get? (d := (0 : Int)) hkl]
      simp
    repeat' (first
      | (refine K_ops ?_; first
        | refine W_fastB rfl ?_
        | refine W_nil ?_
        | (refine K_call ?_; first
          | (refine W_callsN 32 rfl (w32 (i := (k : Int)) (hs.front 1 rfl) hrl (by omega) (by omega) (by omega) (by omega)) rfl ?_; rintro _ hX ⟨rfl, rfl⟩; rw [Int.toNat_natCast]; refine W_norm rfl ?_)
        )
        | (refine K_bin ?_; first
          | (refine W_add rfl rfl (IntWalk.i64_in _ (by first | omega | (simp only [List.length_set, List.length_append, List.length_take, List.length_drop, List.length_replicate, List.length_cons, List.length_nil, decs_length, List.length_map]; omega))) ?_; refine W_norm rfl ?_)
        )
        | (refine K_index ?_; first
          | (refine W_indexO rfl rfl ⟨(by first | omega | (simp only [List.length_set, List.length_append, List.length_take, List.length_drop, List.length_replicate, List.length_cons, List.length_nil, decs_length, List.length_map]; omega)), (by first | omega | (simp only [List.length_set, List.length_append, List.length_take, List.length_drop, List.length_replicate, List.length_cons, List.length_nil, decs_length, List.length_map]; omega))⟩ ?_; refine W_norm rfl ?_)
        )
        | (refine K_load ?_; first
          | (refine W_loadC hs 1 rfl rfl rfl ?_; refine W_norm rfl ?_)
          | (refine W_loadO hs 2 rfl rfl rfl (by first | omega | (simp only [List.length_set, List.length_append, List.length_take, List.length_drop, List.length_replicate, List.length_cons, List.length_nil, decs_length, List.length_map]; omega)) rfl ?_; refine W_norm rfl ?_)
        )
        | (refine K_store ?_; first
          | (refine W_storeO hs 0 rfl rfl rfl rfl rfl (by first | omega | (simp only [List.length_set, List.length_append, List.length_take, List.length_drop, List.length_replicate, List.length_cons, List.length_nil, decs_length, List.length_map]; omega)) (by first | decide | assumption) rfl ?_; intro _ hs; try simp only [cell_back, attr_back, List.set_cons_zero, List.set_cons_succ, List.eraseIdx_cons_succ, List.eraseIdx_zero, List.tail_cons, List.nil_append, List.cons_append] at hs; refine W_norm rfl ?_)
        )
      )
      | (refine K_code ?_; first
        | refine W_seq ?_
        | refine W_ops ?_
        | (refine W_cond rfl (fun hc => ?_) (fun hc => ?_) <;> (try rw [hc]) <;> (try simp only [decide_eq_true_eq, decide_eq_false_iff_not, beq_iff_eq, beq_eq_false_iff_ne, bne_iff_ne, bne_eq_false_iff_eq, Bool.not_eq_true', Bool.not_eq_false', Int.not_lt, Int.not_le, ne_eq, reduceCtorEq, not_true_eq_false, not_false_eq_true, Decidable.not_not] at hc) <;> (try (exfalso; omega)) <;> (try refine W_norm rfl ?_))
        | refine W_skip ?_
        | refine W_block ?_
        | refine W_draws ?_
      )
      | refine W_dstep rfl ?_
      | refine ⟨rfl, fun rc hrec => ?_⟩
      | (refine W_dnilS (by simp only [List.reverse_cons, List.reverse_nil, List.nil_append, List.cons_append]; rfl) (by repeat' first | exact CL_nil _ _ | refine CL_skip rfl ?_ | refine CL_load (by assumption) rfl (by first | exact trivial | (repeat' first | exact trivial | refine ⟨⟨_, rfl, (by refine (congrArg (fun x => Heap.get x _) (RecIs.hh (by assumption))).trans ?_; first | rfl | exact PtR.same_get (by assumption) (by assumption) (by assumption) | exact Sep.same_get (by assumption) (by assumption) 0 0 rfl rfl | exact Sep.same_get (by assumption) (by assumption) 0 1 rfl rfl | exact Sep.same_get (by assumption) (by assumption) 0 2 rfl rfl | exact Sep.same_get (by assumption) (by assumption) 0 3 rfl rfl | exact Sep.same_get (by assumption) (by assumption) 1 0 rfl rfl | exact Sep.same_get (by assumption) (by assumption) 1 1 rfl rfl | exact Sep.same_get (by assumption) (by assumption) 1 2 rfl rfl | exact Sep.same_get (by assumption) (by assumption) 1 3 rfl rfl | exact Sep.same_get (by assumption) (by assumption) 2 0 rfl rfl | exact Sep.same_get (by assumption) (by assumption) 2 1 rfl rfl | exact Sep.same_get (by assumption) (by assumption) 2 2 rfl rfl | exact Sep.same_get (by assumption) (by assumption) 2 3 rfl rfl | exact Sep.same_get (by assumption) (by assumption) 3 0 rfl rfl | exact Sep.same_get (by assumption) (by assumption) 3 1 rfl rfl | exact Sep.same_get (by assumption) (by assumption) 3 2 rfl rfl | exact Sep.same_get (by assumption) (by assumption) 3 3 rfl rfl)⟩, ?_⟩)) (by first | exact trivial | (repeat' first | exact trivial | refine ⟨⟨_, rfl, (by refine (congrArg (fun x => Heap.get x _) (RecIs.hh' (by assumption))).trans ?_; first | rfl | exact PtR.same_get (by assumption) (by assumption) (by assumption) | exact Sep.same_get (by assumption) (by assumption) 0 0 rfl rfl | exact Sep.same_get (by assumption) (by assumption) 0 1 rfl rfl | exact Sep.same_get (by assumption) (by assumption) 0 2 rfl rfl | exact Sep.same_get (by assumption) (by assumption) 0 3 rfl rfl | exact Sep.same_get (by assumption) (by assumption) 1 0 rfl rfl | exact Sep.same_get (by assumption) (by assumption) 1 1 rfl rfl | exact Sep.same_get (by assumption) (by assumption) 1 2 rfl rfl | exact Sep.same_get (by assumption) (by assumption) 1 3 rfl rfl | exact Sep.same_get (by assumption) (by assumption) 2 0 rfl rfl | exact Sep.same_get (by assumption) (by assumption) 2 1 rfl rfl | exact Sep.same_get (by assumption) (by assumption) 2 2 rfl rfl | exact Sep.same_get (by assumption) (by assumption) 2 3 rfl rfl | exact Sep.same_get (by assumption) (by assumption) 3 0 rfl rfl | exact Sep.same_get (by assumption) (by assumption) 3 1 rfl rfl | exact Sep.same_get (by assumption) (by assumption) 3 2 rfl rfl | exact Sep.same_get (by assumption) (by assumption) 3 3 rfl rfl)⟩, ?_⟩)) ?_) ?_)
      | refine seqK_n ?_
      | refine blockK_n ?_
      | refine invK_n ?_)
    rw [Int.toNat_natCast, Int.toNat_natCast] at hs
    have ed : intE.dec [.int .i64 (b.r.getD ((b.a + k) % b.r.length) intE.dflt)] = b.L.getD k 0 := hrg
    rw [ed, eset] at hs
    refine ⟨_, ?_, _, ⟨k + 1, rfl, rfl, ?_, hs⟩, EnvB.of rfl⟩ <;> omega
  · obtain rfl : k = b.L.length := by omega
    rw [List.take_of_length_le (by omega)] at hs
    repeat' (first
      | (refine K_ops ?_; first
        | refine W_fastB rfl ?_
        | refine W_nil ?_
        | (refine K_store ?_; first
          | (refine W_storeC hs 1 rfl rfl rfl rfl (by first | decide | assumption) rfl rfl ?_; clear hs; intro _ hs; try simp only [cell_back, attr_back, List.set_cons_zero, List.set_cons_succ, List.eraseIdx_cons_succ, List.eraseIdx_zero, List.tail_cons, List.nil_append, List.cons_append] at hs; refine W_norm rfl ?_)
        )
      )
      | (refine K_code ?_; first
        | refine W_seq ?_
        | refine W_ops ?_
        | (refine W_cond rfl (fun hc => ?_) (fun hc => ?_) <;> (try rw [hc]) <;> (try simp only [decide_eq_true_eq, decide_eq_false_iff_not, beq_iff_eq, beq_eq_false_iff_ne, bne_iff_ne, bne_eq_false_iff_eq, Bool.not_eq_true', Bool.not_eq_false', Int.not_lt, Int.not_le, ne_eq, reduceCtorEq, not_true_eq_false, not_false_eq_true, Decidable.not_not] at hc) <;> (try (exfalso; omega)) <;> (try refine W_norm rfl ?_))
        | refine W_exit ?_
      )
      | refine seqK_n ?_
      | refine seqK_x ?_
      | refine blockK_e ?_
      | refine invK_x ?_
      | (refine fnK_n rfl ?_; try dsimp only [gd_z, gd_s]))
    have hl2 : (b.L ++ List.replicate (n - b.L.length) (0 : Int)).length = n := by simp; omega
    refine ⟨_, rfl, rfl, _, b.L ++ List.replicate (n - b.L.length) 0, _, AccS.one (by simp) hl2.symm, ⟨m0, m1, ?_, ?_, ?_, ?_, g0, g1⟩, ?_, (hs.front 1 rfl).drop 2⟩
    · show ((b.L ++ List.replicate (n - b.L.length) (0 : Int)).length : Int) ≤ b.max
      omega
    · show b.L.length ≤ (b.L ++ List.replicate (n - b.L.length) (0 : Int)).length
      omega
    · left
      show 0 < (b.L ++ List.replicate (n - b.L.length) (0 : Int)).length
      omega
    · intro i hi
      have hi' : i < b.L.length := hi
      show (b.L ++ List.replicate (n - b.L.length) (0 : Int)).getD ((0 + i) % (b.L ++ List.replicate (n - b.L.length) (0 : Int)).length) 0 = b.L.getD i 0
      rw [hl2, Nat.zero_add, mod_small (by omega), getD_app, if_pos hi']
    · rw [hl2]; exact hn1
end Go.Proofs.Ytjadhoelknmnkaa
/- A back: Put. -/
set_option linter.unusedSimpArgs false
set_option linter.unusedVariables false
set_option maxHeartbeats 1000000
set_option maxRecDepth 100000
namespace Go.Proofs.Ytjadhoelknmnkaa
open Go Go.Jx

/-- What is put. -/
def putL (m : Int) (L : List Int) (x : Int) : List Int := if m ≤ L.length then (L ++ [x]).drop 1 else L ++ [x]
def putG (m : Int) (L : List Int) (g : Int) : Int := if m ≤ L.length then g + 1 else g
theorem put_room {b : Bk} (I : BkI b) {x : Int} (h : b.L.length < b.r.length) : BkI { b with r := b.r.set ((b.a + b.L.length) % b.r.length) x, L := b.L ++ [x] } := by
  have I0 := I
  obtain ⟨m0, m1, rl, ll, al, ring, g0, g1⟩ := I0
  have ha : b.a < b.r.length := by omega
  refine ⟨m0, m1, ?_, ?_, ?_, ?_, g0, g1⟩
  · show ((b.r.set _ x).length : Int) ≤ b.max
    rw [List.length_set]; exact rl
  · show (b.L ++ [x]).length ≤ (b.r.set _ x).length
    rw [List.length_set, List.length_append]; simp only [List.length_cons, List.length_nil]; omega
  · left
    show b.a < (b.r.set _ x).length
    rw [List.length_set]; exact ha
  · intro i hi
    have hi' : i < b.L.length + 1 := by simpa using hi
    show (b.r.set ((b.a + b.L.length) % b.r.length) x).getD ((b.a + i) % (b.r.set ((b.a + b.L.length) % b.r.length) x).length) 0 = (b.L ++ [x]).getD i 0
    have e1 := mod_cases (a := b.a + b.L.length) (n := b.r.length) (by omega)
    have e2 := mod_cases (a := b.a + i) (n := b.r.length) (by omega)
    have hmod : (b.a + b.L.length) % b.r.length < b.r.length := Nat.mod_lt _ (by omega)
    rw [List.length_set, getD_set', getD_app]
    by_cases hil : i < b.L.length
    · rw [if_pos hil, if_neg, ring i hil]
      rintro ⟨q1, _⟩
      rw [e1, e2] at q1
      split at q1 <;> split at q1 <;> omega
    · obtain rfl : i = b.L.length := by omega
      rw [if_pos ⟨rfl, hmod⟩, if_neg hil, Nat.sub_self]; rfl
theorem put_full {b : Bk} (I : BkI b) {x : Int} (h : b.L.length = b.r.length) (hm : (b.r.length : Int) = b.max) (h0 : 0 < b.r.length) (hg : b.g < 1000000) : BkI { b with r := b.r.set b.a x, a := (b.a + 1) % b.r.length, L := (b.L ++ [x]).drop 1, g := b.g + 1 } := by
  have I0 := I
  obtain ⟨m0, m1, rl, ll, al, ring, g0, g1⟩ := I0
  have ha : b.a < b.r.length := by omega
  have hmod : (b.a + 1) % b.r.length < b.r.length := Nat.mod_lt _ (by omega)
  have hdl : ((b.L ++ [x]).drop 1).length = b.L.length := by simp
  refine ⟨m0, m1, ?_, ?_, ?_, ?_, ?_, ?_⟩
  · show ((b.r.set _ x).length : Int) ≤ b.max
    rw [List.length_set]; exact rl
  · show ((b.L ++ [x]).drop 1).length ≤ (b.r.set _ x).length
    rw [List.length_set, hdl]; omega
  · left
    show (b.a + 1) % b.r.length < (b.r.set _ x).length
    rw [List.length_set]; exact hmod
  · intro i hi
    have hi' : i < b.L.length := by rw [← hdl]; exact hi
    show (b.r.set b.a x).getD (((b.a + 1) % b.r.length + i) % (b.r.set b.a x).length) 0 = ((b.L ++ [x]).drop 1).getD i 0
    rw [List.length_set, getD_set', getD_drop1, Nat.mod_add_mod, getD_app]
    have e2 := mod_cases (a := b.a + 1 + i) (n := b.r.length) (by omega)
    by_cases hil : i + 1 < b.L.length
    · rw [if_pos hil, if_neg, show b.a + 1 + i = b.a + (i + 1) by omega, ring (i + 1) hil]
      rintro ⟨q1, _⟩
      rw [e2] at q1
      split at q1 <;> omega
    · rw [if_neg hil, if_pos, show i + 1 - b.L.length = 0 by omega]
      · rfl
      · refine ⟨?_, ha⟩
        rw [e2, if_neg (by omega)]; omega
  · show 0 ≤ b.g + 1
    omega
  · show b.g + 1 ≤ 1000000
    omega
theorem w10 {R : Ro} {M : List Hp} {h : Heap} {id : Nat} {rv : SV} {b : Bk} {c : Hp} {x : Int} (hs : Sep R (bkO id rv b :: c :: M) h) (ha : AccS intE 3 rv b.r c) (I : BkI b) (hg : b.g < 1000000) :
    Wc DD 10 [.sc (.ptr id 0), i64 x] h fun w h' => w = bo (decide (b.max ≤ b.L.length)) ∧ ∃ rv' b' c', b'.max = b.max ∧ b'.L = putL b.max b.L x ∧ b'.g = putG b.max b.L b.g ∧ BkI b' ∧ AccS intE 3 rv' b'.r c' ∧ Sep R (bkO id rv' b' :: c' :: M) h' := by
  have I0 := I
  obtain ⟨m0, m1, rl, ll, al, ring, g0, g1⟩ := I0
  have hrl := ha.ln
  unfold putL putG
  refine W_enter d10 ?_
  show W _ (.code m10_code [.sc (.ptr id 0), i64 x, undefA, undefA, undefA, undefA, undefA, undefA, undefA, undefA, undefA, undefA, undefA, undefA, undefA, undefA, undefA, undefA, undefA, undefA, undefA, undefA, undefA, undefA, undefA, undefA, undefA, undefA, undefA, undefA, undefA, undefA, undefA, undefA, undefA, undefA, undefA, undefA, undefA, undefA, undefA, undefA, undefA, undefA, undefA, undefA, undefA, undefA, undefA, undefA, undefA, undefA, undefA, undefA, undefA, undefA, undefA, undefA, undefA, undefA, undefA, undefA, undefA, undefA, undefA, undefA, undefA, undefA, undefA, undefA, undefA, undefA, undefA, undefA, undefA, undefA, undefA, undefA, undefA, undefA, undefA, undefA, undefA, undefA, undefA, undefA, undefA, undefA, undefA, undefA, undefA, undefA, undefA, undefA] _) _
  unfold m10_code
  repeat' (first
    | (refine K_ops ?_; first
      | refine W_fastB rfl ?_
      | refine W_nil ?_
      | (refine K_guard ?_; first
        | refine W_guard_on rfl ?_
        | refine W_guard_off rfl rfl (W_norm rfl ?_)
        | (refine W_guardT rfl (fun hc => ?_) (fun hc => ?_) <;> (try rw [hc]) <;> (try simp only [decide_eq_true_eq, decide_eq_false_iff_not, beq_iff_eq, beq_eq_false_iff_ne, bne_iff_ne, bne_eq_false_iff_eq, Bool.not_eq_true', Bool.not_eq_false', Int.not_lt, Int.not_le, ne_eq, reduceCtorEq, not_true_eq_false, not_false_eq_true, Decidable.not_not] at hc) <;> (try (exfalso; omega)) <;> (try refine W_norm rfl ?_))
      )
      | (refine K_call ?_; first
        | (refine W_callsN 30 rfl (w30 hs) rfl ?_; rintro _ hX ⟨rfl, rfl⟩; refine W_norm rfl ?_)
        | (refine W_callsN 31 rfl (w31 hs ha I (by omega) (by omega)) rfl ?_; rintro _ hX ⟨rfl, rv', r', c', hA', hI', hl', hs⟩; refine W_norm rfl ?_)
      )
      | (refine W_lenL rfl (by first | assumption | exact SlR.ln (by assumption) | exact AccS.ln (by assumption) | exact OwnS.ln (by assumption) | exact VwO.ln (by assumption) | exact OwnP.ln (by assumption) | exact Len.sl) ?_; refine W_norm rfl ?_)
      | (refine K_bin ?_; first
        | (refine W_add rfl rfl (IntWalk.i64_in _ (by first | omega | (simp only [List.length_set, List.length_append, List.length_take, List.length_drop, List.length_replicate, List.length_cons, List.length_nil, decs_length, List.length_map]; omega))) ?_; refine W_norm rfl ?_)
      )
      | (refine K_pick ?_; first
        | refine W_pick_t rfl rfl (W_norm rfl ?_)
        | refine W_pick_f rfl rfl (W_norm rfl ?_)
      )
      | (refine K_load ?_; first
        | (refine W_loadC hs 0 rfl rfl rfl ?_; refine W_norm rfl ?_)
      )
      | (refine K_store ?_; first
        | (refine W_storeC hs 0 rfl rfl rfl rfl (by first | decide | assumption) rfl rfl ?_; clear hs; intro _ hs; try simp only [cell_back, attr_back, List.set_cons_zero, List.set_cons_succ, List.eraseIdx_cons_succ, List.eraseIdx_zero, List.tail_cons, List.nil_append, List.cons_append] at hs; refine W_norm rfl ?_)
      )
    )
    | (refine K_code ?_; first
      | (refine W_midB (a := .seq (.draw m10_r6) _) [19, 20, 21, 22, 23, 24, 25, 26, 27, 28, 29, 30, 31, 32, 33, 34, 35, 36, 37, 38, 39, 40, 41] [0, 1, 2, 3, 4, 5, 6, 7, 8, 9, 10, 11, 12, 13, 14, 15, 16, 17, 18, 19, 20, 21, 22, 23, 24, 25, 26, 27, 28, 29, 30, 31, 32, 33, 34, 35, 36, 37, 38, 39, 40, 41, 42, 43, 44, 45, 46, 47, 48, 49, 50, 51, 52, 53, 54, 55, 56, 57, 58, 59, 60, 61, 62, 63, 64, 65, 66, 67, 68, 69, 70, 71, 72, 73, 74, 75, 76, 77, 78, 79, 80, 81, 82, 83, 84, 85, 86, 87, 88, 89, 90, 91, 92, 93] (fun sl h' => ∃ (rv' : SV) (r' : List Int) (a' : Nat) (c' : Hp), sl = [] ∧ AccS intE 3 rv' r' c' ∧ BkI { b with r := r', a := a' } ∧ (b.L.length < r'.length ∨ (b.L.length = r'.length ∧ (r'.length : Int) = b.max)) ∧ Sep R (bkO id rv' { b with r := r', a := a' } :: c' :: M) h') ?_ ?_)
      | refine W_seq ?_
      | refine W_ops ?_
      | refine W_cond_f rfl ?_
      | (refine W_cond rfl (fun hc => ?_) (fun hc => ?_) <;> (try rw [hc]) <;> (try simp only [decide_eq_true_eq, decide_eq_false_iff_not, beq_iff_eq, beq_eq_false_iff_ne, bne_iff_ne, bne_eq_false_iff_eq, Bool.not_eq_true', Bool.not_eq_false', Int.not_lt, Int.not_le, ne_eq, reduceCtorEq, not_true_eq_false, not_false_eq_true, Decidable.not_not] at hc) <;> (try (exfalso; omega)) <;> (try refine W_norm rfl ?_))
      | refine W_skip ?_
      | refine W_ret ?_
      | refine W_draw rfl ?_
    )
    | refine seqK_n ?_
    | refine seqK_r ?_
    | refine midK_n ?_
    | (refine fnK_r rfl ?_; try dsimp only [gd_z, gd_s]))
  · have hL : b.L = [] := List.eq_nil_of_length_eq_zero (by omega)
    refine ⟨_, rfl, by rw [decide_eq_true (by omega)], rv, { b with g := b.g + 1 }, c, rfl, ?_, ?_, ⟨m0, m1, rl, ll, al, ring, ?_, ?_⟩, ha, hs⟩
    · rw [if_pos (by omega)]
      show b.L = _
      rw [hL]; rfl
    · rw [if_pos (by omega)]
    · show 0 ≤ b.g + 1
      omega
    · show b.g + 1 ≤ 1000000
      omega
  all_goals try first
    | exact ⟨_, ⟨rv', r', 0, c', rfl, hA', hI', .inl hl', hs⟩, EnvB.of rfl⟩
    | exact ⟨_, ⟨rv, b.r, b.a, c, rfl, ha, I, by omega, hs⟩, EnvB.of rfl⟩
  clear hs ha I rl ll al ring hrl
  rintro _ us _ h2 ⟨rv2, r2, a2, c2, rfl, ha, I, hcase, hs⟩ he
  refine W_spell he rfl ?_
  clear he
  have I1 := I
  obtain ⟨_, _, rl, ll, al, ring, _, _⟩ := I1
  simp only at rl ll al ring
  have hrl := ha.ln
  have hlt3 : (b.L.length : Int) ≤ r2.length := by omega
  by_cases hlt : b.L.length < r2.length
  · obtain ⟨idr, kd, rfl, rfl, hkd⟩ := ha.pos (by first | omega | (simp only; omega))
    have hmod : (a2 + b.L.length) % r2.length < r2.length := Nat.mod_lt _ (by omega)
    have e1 : ((b.L.length : Int) + 1 - 1).toNat = b.L.length := by omega
    repeat' (first
      | (refine K_ops ?_; first
        | refine W_fastB rfl ?_
        | refine W_nil ?_
        | (refine W_lenL rfl (by first | assumption | exact SlR.ln (by assumption) | exact AccS.ln (by assumption) | exact OwnS.ln (by assumption) | exact VwO.ln (by assumption) | exact OwnP.ln (by assumption) | exact Len.sl) ?_; refine W_norm rfl ?_)
        | (refine K_bin ?_; first
          | (refine W_add rfl rfl (IntWalk.i64_in _ (by first | omega | (simp only [List.length_set, List.length_append, List.length_take, List.length_drop, List.length_replicate, List.length_cons, List.length_nil, decs_length, List.length_map]; omega))) ?_; refine W_norm rfl ?_)
        )
        | (refine K_load ?_; first
          | (refine W_loadC hs 0 rfl rfl rfl ?_; refine W_norm rfl ?_)
        )
        | (refine K_store ?_; first
          | (refine W_storeC hs 0 rfl rfl rfl rfl (by first | decide | assumption) rfl rfl ?_; clear hs; intro _ hs; try simp only [cell_back, attr_back, List.set_cons_zero, List.set_cons_succ, List.eraseIdx_cons_succ, List.eraseIdx_zero, List.tail_cons, List.nil_append, List.cons_append] at hs; refine W_norm rfl ?_)
        )
      )
      | (refine K_code ?_; first
        | refine W_seq ?_
        | refine W_ops ?_
        | (refine W_cond rfl (fun hc => ?_) (fun hc => ?_) <;> (try rw [hc]) <;> (try simp only [decide_eq_true_eq, decide_eq_false_iff_not, beq_iff_eq, beq_eq_false_iff_ne, bne_iff_ne, bne_eq_false_iff_eq, Bool.not_eq_true', Bool.not_eq_false', Int.not_lt, Int.not_le, ne_eq, reduceCtorEq, not_true_eq_false, not_false_eq_true, Decidable.not_not] at hc) <;> (try (exfalso; omega)) <;> (try refine W_norm rfl ?_))
        | refine W_draw rfl ?_
      )
      | refine seqK_n ?_)
    repeat' (first
      | (refine K_ops ?_; first
        | refine W_fastB rfl ?_
        | refine W_nil ?_
        | (refine K_call ?_; first
          | (refine W_callsN 32 rfl (w32 (i := (b.L.length : Int) + 1 - 1) hs hrl (by omega) (by omega) (by omega) (by omega)) rfl ?_; rintro _ hX ⟨rfl, rfl⟩; rw [e1]; refine W_norm rfl ?_)
        )
        | (refine K_bin ?_; first
          | (refine W_sub rfl rfl (IntWalk.i64_in _ (by first | omega | (simp only [List.length_set, List.length_append, List.length_take, List.length_drop, List.length_replicate, List.length_cons, List.length_nil, decs_length, List.length_map]; omega))) ?_; refine W_norm rfl ?_)
        )
        | (refine K_index ?_; first
          | (refine W_indexO rfl rfl ⟨(by first | omega | (simp only [List.length_set, List.length_append, List.length_take, List.length_drop, List.length_replicate, List.length_cons, List.length_nil, decs_length, List.length_map]; omega)), (by first | omega | (simp only [List.length_set, List.length_append, List.length_take, List.length_drop, List.length_replicate, List.length_cons, List.length_nil, decs_length, List.length_map]; omega))⟩ ?_; refine W_norm rfl ?_)
        )
        | (refine K_load ?_; first
          | (refine W_loadC hs 0 rfl rfl rfl ?_; refine W_norm rfl ?_)
        )
        | (refine K_store ?_; first
          | (refine W_storeO hs 1 rfl rfl rfl rfl rfl (by first | omega | (simp only [List.length_set, List.length_append, List.length_take, List.length_drop, List.length_replicate, List.length_cons, List.length_nil, decs_length, List.length_map]; omega)) (by first | decide | assumption) rfl ?_; intro _ hs; try simp only [cell_back, attr_back, List.set_cons_zero, List.set_cons_succ, List.eraseIdx_cons_succ, List.eraseIdx_zero, List.tail_cons, List.nil_append, List.cons_append] at hs; refine W_norm rfl ?_)
        )
      )
      | (refine K_code ?_; first
        | refine W_seq ?_
        | refine W_ops ?_
        | refine W_ret ?_
        | refine W_draws ?_
      )
      | refine W_dstep rfl ?_
      | refine ⟨rfl, fun rc hrec => ?_⟩
      | (refine W_dnilS (by simp only [List.reverse_cons, List.reverse_nil, List.nil_append, List.cons_append]; rfl) (by repeat' first | exact CL_nil _ _ | refine CL_skip rfl ?_ | refine CL_load (by assumption) rfl (by first | exact trivial | (repeat' first | exact trivial | refine ⟨⟨_, rfl, (by refine (congrArg (fun x => Heap.get x _) (RecIs.hh (by assumption))).trans ?_; first | rfl | exact PtR.same_get (by assumption) (by assumption) (by assumption) | exact Sep.same_get (by assumption) (by assumption) 0 0 rfl rfl | exact Sep.same_get (by assumption) (by assumption) 0 1 rfl rfl | exact Sep.same_get (by assumption) (by assumption) 0 2 rfl rfl | exact Sep.same_get (by assumption) (by assumption) 0 3 rfl rfl | exact Sep.same_get (by assumption) (by assumption) 1 0 rfl rfl | exact Sep.same_get (by assumption) (by assumption) 1 1 rfl rfl | exact Sep.same_get (by assumption) (by assumption) 1 2 rfl rfl | exact Sep.same_get (by assumption) (by assumption) 1 3 rfl rfl | exact Sep.same_get (by assumption) (by assumption) 2 0 rfl rfl | exact Sep.same_get (by assumption) (by assumption) 2 1 rfl rfl | exact Sep.same_get (by assumption) (by assumption) 2 2 rfl rfl | exact Sep.same_get (by assumption) (by assumption) 2 3 rfl rfl | exact Sep.same_get (by assumption) (by assumption) 3 0 rfl rfl | exact Sep.same_get (by assumption) (by assumption) 3 1 rfl rfl | exact Sep.same_get (by assumption) (by assumption) 3 2 rfl rfl | exact Sep.same_get (by assumption) (by assumption) 3 3 rfl rfl)⟩, ?_⟩)) (by first | exact trivial | (repeat' first | exact trivial | refine ⟨⟨_, rfl, (by refine (congrArg (fun x => Heap.get x _) (RecIs.hh' (by assumption))).trans ?_; first | rfl | exact PtR.same_get (by assumption) (by assumption) (by assumption) | exact Sep.same_get (by assumption) (by assumption) 0 0 rfl rfl | exact Sep.same_get (by assumption) (by assumption) 0 1 rfl rfl | exact Sep.same_get (by assumption) (by assumption) 0 2 rfl rfl | exact Sep.same_get (by assumption) (by assumption) 0 3 rfl rfl | exact Sep.same_get (by assumption) (by assumption) 1 0 rfl rfl | exact Sep.same_get (by assumption) (by assumption) 1 1 rfl rfl | exact Sep.same_get (by assumption) (by assumption) 1 2 rfl rfl | exact Sep.same_get (by assumption) (by assumption) 1 3 rfl rfl | exact Sep.same_get (by assumption) (by assumption) 2 0 rfl rfl | exact Sep.same_get (by assumption) (by assumption) 2 1 rfl rfl | exact Sep.same_get (by assumption) (by assumption) 2 2 rfl rfl | exact Sep.same_get (by assumption) (by assumption) 2 3 rfl rfl | exact Sep.same_get (by assumption) (by assumption) 3 0 rfl rfl | exact Sep.same_get (by assumption) (by assumption) 3 1 rfl rfl | exact Sep.same_get (by assumption) (by assumption) 3 2 rfl rfl | exact Sep.same_get (by assumption) (by assumption) 3 3 rfl rfl)⟩, ?_⟩)) ?_) ?_)
      | refine seqK_n ?_
      | refine seqK_r ?_
      | (refine fnK_r rfl ?_; try dsimp only [gd_z, gd_s]))
    rw [Int.toNat_natCast] at hs
    have hmx : ¬ b.max ≤ (b.L.length : Int) := by omega
    have e2 : ((b.L ++ [x]).length : Int) = (b.L.length : Int) + 1 := by simp
    refine ⟨_, rfl, by rw [decide_eq_false hmx], .slice idr 0 r2.length r2.length, { b with r := r2.set ((a2 + b.L.length) % r2.length) x, a := a2, L := b.L ++ [x] }, _, rfl, by rw [if_neg hmx], by rw [if_neg hmx], put_room I hlt, AccS.again hkd List.length_set, ?_⟩
    show Sep R ([(id, .cells 54 .own [.bool true, .int .i64 b.max, .slice idr 0 r2.length r2.length, .int .i64 (a2 : Int), .int .i64 ((b.L ++ [x]).length : Int), .int .i64 b.g])] :: _) _
    rw [e2]
    exact hs
  · have hm2 : (r2.length : Int) = b.max := by omega
    have hl2 : b.L.length = r2.length := by omega
    obtain ⟨idr, kd, rfl, rfl, hkd⟩ := ha.pos (by first | omega | (simp only; omega))
    repeat' (first
      | (refine K_ops ?_; first
        | refine W_fastB rfl ?_
        | refine W_nil ?_
        | (refine K_call ?_; first
          | (refine W_callsN 32 rfl (w32 (a := a2) (n := r2.length) (i := 1) hs hrl (by omega) (by omega) (by omega) (by omega)) rfl ?_; rintro _ hX ⟨rfl, rfl⟩; refine W_norm rfl ?_)
        )
        | (refine W_lenL rfl (by first | assumption | exact SlR.ln (by assumption) | exact AccS.ln (by assumption) | exact OwnS.ln (by assumption) | exact VwO.ln (by assumption) | exact OwnP.ln (by assumption) | exact Len.sl) ?_; refine W_norm rfl ?_)
        | (refine K_bin ?_; first
          | (refine W_add rfl rfl (IntWalk.i64_in _ (by first | omega | (simp only [List.length_set, List.length_append, List.length_take, List.length_drop, List.length_replicate, List.length_cons, List.length_nil, decs_length, List.length_map]; omega))) ?_; refine W_norm rfl ?_)
        )
        | (refine K_index ?_; first
          | (refine W_indexO rfl rfl ⟨(by first | omega | (simp only [List.length_set, List.length_append, List.length_take, List.length_drop, List.length_replicate, List.length_cons, List.length_nil, decs_length, List.length_map]; omega)), (by first | omega | (simp only [List.length_set, List.length_append, List.length_take, List.length_drop, List.length_replicate, List.length_cons, List.length_nil, decs_length, List.length_map]; omega))⟩ ?_; refine W_norm rfl ?_)
        )
        | (refine K_load ?_; first
          | (refine W_loadC hs 0 rfl rfl rfl ?_; refine W_norm rfl ?_)
        )
        | (refine K_store ?_; first
          | (refine W_storeC hs 0 rfl rfl rfl rfl (by first | decide | assumption) rfl rfl ?_; clear hs; intro _ hs; try simp only [cell_back, attr_back, List.set_cons_zero, List.set_cons_succ, List.eraseIdx_cons_succ, List.eraseIdx_zero, List.tail_cons, List.nil_append, List.cons_append] at hs; refine W_norm rfl ?_)
          | (refine W_storeO hs 1 rfl rfl rfl rfl rfl (by first | omega | (simp only [List.length_set, List.length_append, List.length_take, List.length_drop, List.length_replicate, List.length_cons, List.length_nil, decs_length, List.length_map]; omega)) (by first | decide | assumption) rfl ?_; clear hs; intro _ hs; try simp only [cell_back, attr_back, List.set_cons_zero, List.set_cons_succ, List.eraseIdx_cons_succ, List.eraseIdx_zero, List.tail_cons, List.nil_append, List.cons_append] at hs; refine W_norm rfl ?_)
        )
      )
      | (refine K_code ?_; first
        | refine W_seq ?_
        | refine W_ops ?_
        | (refine W_cond rfl (fun hc => ?_) (fun hc => ?_) <;> (try rw [hc]) <;> (try simp only [decide_eq_true_eq, decide_eq_false_iff_not, beq_iff_eq, beq_eq_false_iff_ne, bne_iff_ne, bne_eq_false_iff_eq, Bool.not_eq_true', Bool.not_eq_false', Int.not_lt, Int.not_le, ne_eq, reduceCtorEq, not_true_eq_false, not_false_eq_true, Decidable.not_not] at hc) <;> (try (exfalso; omega)) <;> (try refine W_norm rfl ?_))
        | refine W_skip ?_
        | refine W_ret ?_
        | refine W_draw rfl ?_
      )
      | refine seqK_n ?_
      | (refine fnK_r rfl ?_; try dsimp only [gd_z, gd_s]))
    rw [Int.toNat_natCast] at hs
    have hmx : b.max ≤ (b.L.length : Int) := by omega
    have e2 : (((b.L ++ [x]).drop 1).length : Int) = (b.L.length : Int) := by simp
    refine ⟨_, rfl, by rw [decide_eq_true hmx], .slice idr 0 r2.length r2.length, { b with r := r2.set a2 x, a := (a2 + 1) % r2.length, L := (b.L ++ [x]).drop 1, g := b.g + 1 }, _, rfl, by rw [if_pos hmx], by rw [if_pos hmx], put_full I hl2 hm2 (show 0 < r2.length by omega) hg, AccS.again hkd List.length_set, ?_⟩
    show Sep R ([(id, .cells 54 .own [.bool true, .int .i64 b.max, .slice idr 0 r2.length r2.length, .int .i64 (((a2 + 1) % r2.length : Nat) : Int), .int .i64 (((b.L ++ [x]).drop 1).length : Int), .int .i64 (b.g + 1)])] :: _) _
    rw [e2]
    exact hs
end Go.Proofs.Ytjadhoelknmnkaa
/- A back: Pop, At, Clear. -/
set_option linter.unusedSimpArgs false
set_option linter.unusedVariables false
set_option maxHeartbeats 1000000
set_option maxRecDepth 100000
namespace Go.Proofs.Ytjadhoelknmnkaa
open Go Go.Jx

theorem pop_room {b : Bk} (I : BkI b) (h : b.L ≠ []) {y : Int} : BkI { b with r := b.r.set ((b.a + (b.L.length - 1)) % b.r.length) y, L := b.L.dropLast } := by
  have I0 := I
  obtain ⟨m0, m1, rl, ll, al, ring, g0, g1⟩ := I0
  have hl := List.length_pos_iff.2 h
  have ha : b.a < b.r.length := by omega
  refine ⟨m0, m1, ?_, ?_, ?_, ?_, g0, g1⟩
  · show ((b.r.set _ y).length : Int) ≤ b.max
    rw [List.length_set]; exact rl
  · show b.L.dropLast.length ≤ (b.r.set _ y).length
    rw [List.length_set, List.length_dropLast]; omega
  · left
    show b.a < (b.r.set _ y).length
    rw [List.length_set]; exact ha
  · intro i hi
    have hi' : i < b.L.length - 1 := by simpa using hi
    show (b.r.set ((b.a + (b.L.length - 1)) % b.r.length) y).getD ((b.a + i) % (b.r.set ((b.a + (b.L.length - 1)) % b.r.length) y).length) 0 = b.L.dropLast.getD i 0
    have e1 := mod_cases (a := b.a + (b.L.length - 1)) (n := b.r.length) (by omega)
    have e2 := mod_cases (a := b.a + i) (n := b.r.length) (by omega)
    rw [List.length_set, getD_set', if_neg, ring i (by omega), List.getD_eq_getElem?_getD, List.getD_eq_getElem?_getD, List.getElem?_dropLast, if_pos hi']
    rintro ⟨q1, _⟩
    rw [e1, e2] at q1
    split at q1 <;> split at q1 <;> omega
theorem getD_last : ∀ (L : List Int), L.getD (L.length - 1) 0 = L.getLastD 0
  | [] => rfl
  | x :: L => by
    rw [List.getD_eq_getElem?_getD, ← List.getLast?_eq_getElem?, List.getLastD_eq_getLast?]
theorem w13 {R : Ro} {M : List Hp} {h : Heap} {id : Nat} {rv : SV} {b : Bk} {c : Hp} (hs : Sep R (bkO id rv b :: c :: M) h) (ha : AccS intE 3 rv b.r c) (I : BkI b) :
    Wc DD 13 [.sc (.ptr id 0)] h fun w h' => w = .tup [i64 (b.L.getLastD 0), bo (decide (b.L ≠ []))] ∧ ∃ b' c', b'.max = b.max ∧ b'.L = b.L.dropLast ∧ b'.g = b.g ∧ BkI b' ∧ AccS intE 3 rv b'.r c' ∧ Sep R (bkO id rv b' :: c' :: M) h' := by
  have I0 := I
  obtain ⟨m0, m1, rl, ll, al, ring, g0, g1⟩ := I0
  have hrl := ha.ln
  by_cases hL : b.L = []
  · have hl0 : b.L.length = 0 := by rw [hL]; rfl
    refine W_enter d13 ?_
    show W _ (.code m13_code [.sc (.ptr id 0), undefA, undefA, undefA, undefA, undefA, undefA, undefA, undefA, undefA, undefA, undefA, undefA, undefA, undefA, undefA, undefA, undefA, undefA, undefA, undefA, undefA, undefA, undefA, undefA, undefA, undefA, undefA, undefA, undefA, undefA, undefA, undefA, undefA, undefA, undefA, undefA, undefA] _) _
    unfold m13_code
    repeat' (first
      | (refine K_ops ?_; first
        | refine W_fastB rfl ?_
        | refine W_nil ?_
        | (refine K_call ?_; first
          | (refine W_callsN 22 rfl (w22 hs) rfl ?_; rintro _ hX ⟨rfl, rfl⟩; refine W_norm rfl ?_)
        )
      )
      | (refine K_code ?_; first
        | refine W_seq ?_
        | refine W_ops ?_
        | (refine W_cond rfl (fun hc => ?_) (fun hc => ?_) <;> (try rw [hc]) <;> (try simp only [decide_eq_true_eq, decide_eq_false_iff_not, beq_iff_eq, beq_eq_false_iff_ne, bne_iff_ne, bne_eq_false_iff_eq, Bool.not_eq_true', Bool.not_eq_false', Int.not_lt, Int.not_le, ne_eq, reduceCtorEq, not_true_eq_false, not_false_eq_true, Decidable.not_not] at hc) <;> (try (exfalso; omega)) <;> (try refine W_norm rfl ?_))
        | refine W_ret ?_
      )
      | refine seqK_n ?_
      | refine seqK_r ?_
      | (refine fnK_r rfl ?_; try dsimp only [gd_z, gd_s]))
    refine ⟨_, rfl, by rw [hL]; rfl, b, c, rfl, by rw [hL]; rfl, rfl, I, ha, hs⟩
  · have hl := List.length_pos_iff.2 hL
    obtain ⟨idr, kd, rfl, rfl, hkd⟩ := ha.pos (by omega)
    have hmod : (b.a + (b.L.length - 1)) % b.r.length < b.r.length := Nat.mod_lt _ (by omega)
    have e1 : ((b.L.length : Int) - 1).toNat = b.L.length - 1 := by omega
    have hrg := ring (b.L.length - 1) (by omega)
    refine W_enter d13 ?_
    show W _ (.code m13_code [.sc (.ptr id 0), undefA, undefA, undefA, undefA, undefA, undefA, undefA, undefA, undefA, undefA, undefA, undefA, undefA, undefA, undefA, undefA, undefA, undefA, undefA, undefA, undefA, undefA, undefA, undefA, undefA, undefA, undefA, undefA, undefA, undefA, undefA, undefA, undefA, undefA, undefA, undefA, undefA] _) _
    unfold m13_code
    repeat' (first
      | (refine K_ops ?_; first
        | refine W_fastB rfl ?_
        | refine W_nil ?_
        | (refine K_call ?_; first
          | (refine W_callsN 22 rfl (w22 hs) rfl ?_; rintro _ hX ⟨rfl, rfl⟩; refine W_norm rfl ?_)
          | (refine W_callsN 32 rfl (w32 (a := b.a) (n := b.r.length) (i := (b.L.length : Int) - 1) hs hrl (by omega) (by omega) (by omega) (by omega)) rfl ?_; rintro _ hX ⟨rfl, rfl⟩; rw [e1]; refine W_norm rfl ?_)
        )
        | (refine K_bin ?_; first
          | (refine W_sub rfl rfl (IntWalk.i64_in _ (by first | omega | (simp only [List.length_set, List.length_append, List.length_take, List.length_drop, List.length_replicate, List.length_cons, List.length_nil, decs_length, List.length_map]; omega))) ?_; refine W_norm rfl ?_)
        )
        | (refine K_index ?_; first
          | (refine W_indexO rfl rfl ⟨(by first | omega | (simp only [List.length_set, List.length_append, List.length_take, List.length_drop, List.length_replicate, List.length_cons, List.length_nil, decs_length, List.length_map]; omega)), (by first | omega | (simp only [List.length_set, List.length_append, List.length_take, List.length_drop, List.length_replicate, List.length_cons, List.length_nil, decs_length, List.length_map]; omega))⟩ ?_; refine W_norm rfl ?_)
        )
        | (refine K_load ?_; first
          | (refine W_loadC hs 0 rfl rfl rfl ?_; refine W_norm rfl ?_)
          | (refine W_loadO hs 1 rfl rfl rfl (by first | omega | (simp only [List.length_set, List.length_append, List.length_take, List.length_drop, List.length_replicate, List.length_cons, List.length_nil, decs_length, List.length_map]; omega)) rfl ?_; refine W_norm rfl ?_)
        )
        | (refine K_store ?_; first
          | (refine W_storeC hs 0 rfl rfl rfl rfl (by first | decide | assumption) rfl rfl ?_; clear hs; intro _ hs; try simp only [cell_back, attr_back, List.set_cons_zero, List.set_cons_succ, List.eraseIdx_cons_succ, List.eraseIdx_zero, List.tail_cons, List.nil_append, List.cons_append] at hs; refine W_norm rfl ?_)
          | (refine W_storeO hs 1 rfl rfl rfl rfl rfl (by first | omega | (simp only [List.length_set, List.length_append, List.length_take, List.length_drop, List.length_replicate, List.length_cons, List.length_nil, decs_length, List.length_map]; omega)) (by first | decide | assumption) rfl ?_; clear hs; intro _ hs; try simp only [cell_back, attr_back, List.set_cons_zero, List.set_cons_succ, List.eraseIdx_cons_succ, List.eraseIdx_zero, List.tail_cons, List.nil_append, List.cons_append] at hs; refine W_norm rfl ?_)
        )
      )
      | (refine K_code ?_; first
        | refine W_seq ?_
        | refine W_ops ?_
        | (refine W_cond rfl (fun hc => ?_) (fun hc => ?_) <;> (try rw [hc]) <;> (try simp only [decide_eq_true_eq, decide_eq_false_iff_not, beq_iff_eq, beq_eq_false_iff_ne, bne_iff_ne, bne_eq_false_iff_eq, Bool.not_eq_true', Bool.not_eq_false', Int.not_lt, Int.not_le, ne_eq, reduceCtorEq, not_true_eq_false, not_false_eq_true, Decidable.not_not] at hc) <;> (try (exfalso; omega)) <;> (try refine W_norm rfl ?_))
        | refine W_skip ?_
        | refine W_ret ?_
        | refine W_draw rfl ?_
      )
      | refine seqK_n ?_
      | (refine fnK_r rfl ?_; try dsimp only [gd_z, gd_s]))
    rw [Int.toNat_natCast] at hs
    have e2 : (b.L.dropLast.length : Int) = (b.L.length : Int) - 1 := by rw [List.length_dropLast]; omega
    have e3 : b.r.getD (((b.a + (b.L.length - 1)) % b.r.length : Nat) : Int).toNat intE.dflt = b.L.getLastD 0 := by rw [Int.toNat_natCast]; exact hrg.trans (getD_last b.L)
    refine ⟨_, rfl, by rw [e3, decide_eq_true hL], { b with r := b.r.set ((b.a + (b.L.length - 1)) % b.r.length) 0, L := b.L.dropLast }, _, rfl, rfl, rfl, pop_room I hL, AccS.again hkd List.length_set, ?_⟩
    show Sep R ([(id, .cells 54 .own [.bool true, .int .i64 b.max, .slice idr 0 b.r.length b.r.length, .int .i64 (b.a : Int), .int .i64 (b.L.dropLast.length : Int), .int .i64 b.g])] :: _) _
    rw [e2]
    exact hs
theorem w26 {R : Ro} {M : List Hp} {h : Heap} {id : Nat} {rv : SV} {b : Bk} {c : Hp} {i : Int} (hs : Sep R (bkO id rv b :: c :: M) h) (ha : AccS intE 3 rv b.r c) (I : BkI b) :
    Wc DD 26 [.sc (.ptr id 0), i64 i] h fun w h' => (∃ x, w = .tup [i64 x, bo (decide (0 ≤ i ∧ i < b.L.length))] ∧ (0 ≤ i ∧ i < b.L.length → x = b.L.getD i.toNat 0) ∧ (¬ (0 ≤ i ∧ i < b.L.length) → x = 0)) ∧ h' = h := by
  have I0 := I
  obtain ⟨m0, m1, rl, ll, al, ring, g0, g1⟩ := I0
  have hrl := ha.ln
  refine W_enter d26 ?_
  show W _ (.code m26_code [.sc (.ptr id 0), i64 i, undefA, undefA, undefA, undefA, undefA, undefA, undefA, undefA, undefA, undefA, undefA, undefA, undefA, undefA, undefA, undefA, undefA, undefA, undefA, undefA, undefA, undefA] _) _
  unfold m26_code
  by_cases hi : 0 ≤ i ∧ i < b.L.length
  · obtain ⟨idr, kd, rfl, rfl, hkd⟩ := ha.pos (by omega)
    have hmod : (b.a + i.toNat) % b.r.length < b.r.length := Nat.mod_lt _ (by omega)
    have hrg := ring i.toNat (by omega)
    repeat' (first
      | (refine K_ops ?_; first
        | refine W_fastB rfl ?_
        | refine W_nil ?_
        | (refine K_guard ?_; first
          | refine W_guard_on rfl ?_
          | (refine W_guardF rfl (fun hc => ?_) (fun hc => ?_) <;> (try rw [hc]) <;> (try simp only [decide_eq_true_eq, decide_eq_false_iff_not, beq_iff_eq, beq_eq_false_iff_ne, bne_iff_ne, bne_eq_false_iff_eq, Bool.not_eq_true', Bool.not_eq_false', Int.not_lt, Int.not_le, ne_eq, reduceCtorEq, not_true_eq_false, not_false_eq_true, Decidable.not_not] at hc) <;> (try (exfalso; omega)) <;> (try refine W_norm rfl ?_))
        )
        | (refine K_call ?_; first
          | (refine W_callsN 22 rfl (w22 hs) rfl ?_; rintro _ hX ⟨rfl, rfl⟩; refine W_norm rfl ?_)
        )
        | (refine K_pick ?_; first
          | refine W_pick_f rfl rfl (W_norm rfl ?_)
        )
      )
      | (refine K_code ?_; first
        | refine W_seq ?_
        | refine W_ops ?_
        | (refine W_cond rfl (fun hc => ?_) (fun hc => ?_) <;> (try rw [hc]) <;> (try simp only [decide_eq_true_eq, decide_eq_false_iff_not, beq_iff_eq, beq_eq_false_iff_ne, bne_iff_ne, bne_eq_false_iff_eq, Bool.not_eq_true', Bool.not_eq_false', Int.not_lt, Int.not_le, ne_eq, reduceCtorEq, not_true_eq_false, not_false_eq_true, Decidable.not_not] at hc) <;> (try (exfalso; omega)) <;> (try refine W_norm rfl ?_))
        | refine W_skip ?_
      )
      | refine seqK_n ?_)
    repeat' (first
      | (refine K_ops ?_; first
        | refine W_fastB rfl ?_
        | refine W_nil ?_
        | (refine K_call ?_; first
          | (refine W_callsN 32 rfl (w32 (a := b.a) (n := b.r.length) (i := i) hs hrl (by omega) (by omega) (by omega) (by omega)) rfl ?_; rintro _ hX ⟨rfl, rfl⟩; refine W_norm rfl ?_)
        )
        | (refine K_index ?_; first
          | (refine W_indexO rfl rfl ⟨(by first | omega | (simp only [List.length_set, List.length_append, List.length_take, List.length_drop, List.length_replicate, List.length_cons, List.length_nil, decs_length, List.length_map]; omega)), (by first | omega | (simp only [List.length_set, List.length_append, List.length_take, List.length_drop, List.length_replicate, List.length_cons, List.length_nil, decs_length, List.length_map]; omega))⟩ ?_; refine W_norm rfl ?_)
        )
        | (refine K_load ?_; first
          | (refine W_loadC hs 0 rfl rfl rfl ?_; refine W_norm rfl ?_)
          | (refine W_loadO hs 1 rfl rfl rfl (by first | omega | (simp only [List.length_set, List.length_append, List.length_take, List.length_drop, List.length_replicate, List.length_cons, List.length_nil, decs_length, List.length_map]; omega)) rfl ?_; refine W_norm rfl ?_)
        )
      )
      | (refine K_code ?_; first
        | refine W_ret ?_
        | refine W_draws ?_
      )
      | refine W_dstep rfl ?_
      | refine ⟨rfl, fun rc hrec => ?_⟩
      | (refine W_dnilS (by simp only [List.reverse_cons, List.reverse_nil, List.nil_append, List.cons_append]; rfl) (by repeat' first | exact CL_nil _ _ | refine CL_skip rfl ?_ | refine CL_load (by assumption) rfl (by first | exact trivial | (repeat' first | exact trivial | refine ⟨⟨_, rfl, (by refine (congrArg (fun x => Heap.get x _) (RecIs.hh (by assumption))).trans ?_; first | rfl | exact PtR.same_get (by assumption) (by assumption) (by assumption) | exact Sep.same_get (by assumption) (by assumption) 0 0 rfl rfl | exact Sep.same_get (by assumption) (by assumption) 0 1 rfl rfl | exact Sep.same_get (by assumption) (by assumption) 0 2 rfl rfl | exact Sep.same_get (by assumption) (by assumption) 1 0 rfl rfl | exact Sep.same_get (by assumption) (by assumption) 1 1 rfl rfl | exact Sep.same_get (by assumption) (by assumption) 1 2 rfl rfl | exact Sep.same_get (by assumption) (by assumption) 2 0 rfl rfl | exact Sep.same_get (by assumption) (by assumption) 2 1 rfl rfl | exact Sep.same_get (by assumption) (by assumption) 2 2 rfl rfl)⟩, ?_⟩)) (by first | exact trivial | (repeat' first | exact trivial | refine ⟨⟨_, rfl, (by refine (congrArg (fun x => Heap.get x _) (RecIs.hh' (by assumption))).trans ?_; first | rfl | exact PtR.same_get (by assumption) (by assumption) (by assumption) | exact Sep.same_get (by assumption) (by assumption) 0 0 rfl rfl | exact Sep.same_get (by assumption) (by assumption) 0 1 rfl rfl | exact Sep.same_get (by assumption) (by assumption) 0 2 rfl rfl | exact Sep.same_get (by assumption) (by assumption) 1 0 rfl rfl | exact Sep.same_get (by assumption) (by assumption) 1 1 rfl rfl | exact Sep.same_get (by assumption) (by assumption) 1 2 rfl rfl | exact Sep.same_get (by assumption) (by assumption) 2 0 rfl rfl | exact Sep.same_get (by assumption) (by assumption) 2 1 rfl rfl | exact Sep.same_get (by assumption) (by assumption) 2 2 rfl rfl)⟩, ?_⟩)) ?_) ?_)
      | refine seqK_n ?_
      | (refine fnK_r rfl ?_; try dsimp only [gd_z, gd_s]))
    exact ⟨_, rfl, ⟨_, by rw [decide_eq_true hi], fun _ => by rw [Int.toNat_natCast]; exact hrg, fun hh => absurd hi hh⟩, rfl⟩
  · repeat' (first
      | (refine K_ops ?_; first
        | refine W_fastB rfl ?_
        | refine W_nil ?_
        | (refine K_guard ?_; first
          | refine W_guard_on rfl ?_
          | refine W_guard_off rfl rfl (W_norm rfl ?_)
          | (refine W_guardF rfl (fun hc => ?_) (fun hc => ?_) <;> (try rw [hc]) <;> (try simp only [decide_eq_true_eq, decide_eq_false_iff_not, beq_iff_eq, beq_eq_false_iff_ne, bne_iff_ne, bne_eq_false_iff_eq, Bool.not_eq_true', Bool.not_eq_false', Int.not_lt, Int.not_le, ne_eq, reduceCtorEq, not_true_eq_false, not_false_eq_true, Decidable.not_not] at hc) <;> (try (exfalso; omega)) <;> (try refine W_norm rfl ?_))
        )
        | (refine K_call ?_; first
          | (refine W_callsN 22 rfl (w22 hs) rfl ?_; rintro _ hX ⟨rfl, rfl⟩; refine W_norm rfl ?_)
        )
        | (refine K_pick ?_; first
          | refine W_pick_t rfl rfl (W_norm rfl ?_)
          | refine W_pick_f rfl rfl (W_norm rfl ?_)
        )
      )
      | (refine K_code ?_; first
        | refine W_seq ?_
        | refine W_ops ?_
        | refine W_cond_t rfl ?_
        | (refine W_cond rfl (fun hc => ?_) (fun hc => ?_) <;> (try rw [hc]) <;> (try simp only [decide_eq_true_eq, decide_eq_false_iff_not, beq_iff_eq, beq_eq_false_iff_ne, bne_iff_ne, bne_eq_false_iff_eq, Bool.not_eq_true', Bool.not_eq_false', Int.not_lt, Int.not_le, ne_eq, reduceCtorEq, not_true_eq_false, not_false_eq_true, Decidable.not_not] at hc) <;> (try (exfalso; omega)) <;> (try refine W_norm rfl ?_))
        | refine W_ret ?_
      )
      | refine seqK_n ?_
      | refine seqK_r ?_
      | (refine fnK_r rfl ?_; try dsimp only [gd_z, gd_s]))
    all_goals exact ⟨_, rfl, ⟨0, by rw [decide_eq_false hi], fun hh => absurd hh hi, fun _ => rfl⟩, rfl⟩
theorem w29 {R : Ro} {M : List Hp} {h : Heap} {id : Nat} {rv : SV} {b : Bk} {c : Hp} (hs : Sep R (bkO id rv b :: c :: M) h) (ha : AccS intE 3 rv b.r c) (I : BkI b) :
    Wc DD 29 [.sc (.ptr id 0)] h fun w h' => w = .tup [] ∧ ∃ b' c', b'.max = b.max ∧ b'.L = [] ∧ b'.g = b.g ∧ BkI b' ∧ AccS intE 3 rv b'.r c' ∧ Sep R (bkO id rv b' :: c' :: M) h' := by
  refine W_enter d29 ?_
  show W _ (.code m29_code [.sc (.ptr id 0), undefA, undefA, undefA, undefA, undefA, undefA, undefA, undefA, undefA, undefA, undefA, undefA, undefA, undefA] _) _
  unfold m29_code
  repeat' (first
    | (refine K_ops ?_; first
      | refine W_fastB rfl ?_
      | refine W_nil ?_
      | (refine K_call ?_; first
        | (refine W_callsN 13 rfl (w13 hs ha I) rfl ?_; rintro _ hX ⟨rfl, b1, c1, e1, e2, e3, I1, ha1, hs⟩; refine W_norm rfl ?_)
      )
    )
    | (refine K_code ?_; first
      | refine W_seq ?_
      | refine W_ops ?_
      | refine W_block ?_
    )
    | refine seqK_n ?_)
  refine W_loopB [3, 9, 10, 11, 12, 13, 14] [0, 1, 2, 3, 4, 5, 6, 7, 8, 9, 10, 11, 12, 13, 14] (fun n' sl h' => ∃ (b2 : Bk) (c2 : Hp) (f : Bool), sl = [(3, .sc (.bool f))] ∧ n' = (if f = true then b2.L.length + 1 else 0) ∧ (f = false → b2.L = []) ∧ b2.max = b.max ∧ b2.g = b.g ∧ BkI b2 ∧ AccS intE 3 rv b2.r c2 ∧ Sep R (bkO id rv b2 :: c2 :: M) h') ?_ ?_
  · refine ⟨_, _, ⟨b1, c1, decide (b.L ≠ []), rfl, rfl, fun hf => ?_, e1, e3, I1, ha1, hs⟩, EnvB.of rfl⟩
    have : b.L = [] := by simpa using hf
    rw [e2, this]; rfl
  clear hs ha1 I1 e1 e2 e3
  rintro _ _ us _ h2 ⟨b2, c2, f, rfl, rfl, hf, e1, e3, I2, ha2, hs⟩ he
  refine W_spell he rfl ?_
  clear he
  unfold m29_l1
  repeat' (first
    | (refine K_ops ?_; first
      | refine W_fastB rfl ?_
      | refine W_nil ?_
      | (refine K_call ?_; first
        | (refine W_callsN 13 rfl (w13 hs ha2 I2) rfl ?_; rintro _ hX ⟨rfl, b3, c3, q1, q2, q3, I3, ha3, hs⟩; refine W_norm rfl ?_)
      )
    )
    | (refine K_code ?_; first
      | refine W_seq ?_
      | refine W_ops ?_
      | (refine W_cond rfl (fun hc => ?_) (fun hc => ?_) <;> (try rw [hc]) <;> (try simp only [decide_eq_true_eq, decide_eq_false_iff_not, beq_iff_eq, beq_eq_false_iff_ne, bne_iff_ne, bne_eq_false_iff_eq, Bool.not_eq_true', Bool.not_eq_false', Int.not_lt, Int.not_le, ne_eq, reduceCtorEq, not_true_eq_false, not_false_eq_true, Decidable.not_not] at hc) <;> (try (exfalso; omega)) <;> (try refine W_norm rfl ?_))
      | refine W_skip ?_
      | refine W_exit ?_
      | refine W_block ?_
    )
    | refine seqK_n ?_
    | refine seqK_x ?_
    | refine blockK_n ?_
    | refine blockK_e ?_
    | refine invK_x ?_
    | refine invK_n ?_
    | (refine fnK_n rfl ?_; try dsimp only [gd_z, gd_s]))
  · refine ⟨_, ?_, _, ⟨b3, c3, decide (b2.L ≠ []), rfl, rfl, fun hh => ?_, q1.trans e1, q3.trans e3, I3, ha3, hs⟩, EnvB.of rfl⟩
    · by_cases hb : b2.L = []
      · simp [hb]
      · have hl := List.length_pos_iff.2 hb
        rw [decide_eq_true hb]
        simp only [if_true]
        rw [q2, List.length_dropLast]; omega
    · have hb : b2.L = [] := by simpa using hh
      rw [q2, hb]; rfl
  · exact ⟨_, rfl, rfl, b2, c2, e1, hf (by assumption), e3, I2, ha2, hs⟩
end Go.Proofs.Ytjadhoelknmnkaa
/- A back: a walk over all. -/
set_option linter.unusedSimpArgs false
set_option linter.unusedVariables false
set_option maxHeartbeats 1000000
set_option maxRecDepth 100000
namespace Go.Proofs.Ytjadhoelknmnkaa
open Go Go.Jx

/-- The iterator: the rounds are the caller's. -/
theorem w33 {R0 : Ro} {M : List Hp} {h : Heap} {idl ib id : Nat} {rv : SV} {b : Bk} {c : Hp} {J Jx : Nat → Ro → Heap → Prop} (hs : Sep R0 (bkO id rv b :: c :: M) h) (ha : AccS intE 3 rv b.r c) (I : BkI b) (hib : PtR R0 ib 0 [.ptr id 0])
    (hJR : ∀ k R h, J k R h → R.le (Now h)) (h0 : ∀ R h', R0.le R → Sep R (bkO id rv b :: c :: M) h' → J 0 R h')
    (hY : ∀ k R h', k < b.L.length → R0.le R → J k R h' → W DD (.yield idl [i64 (k : Int), i64 (b.L.getD k 0)] h') (fun _ vs h2 => ∃ v, vs = [v] ∧ ((v = bo true ∧ ∃ R', R.le R' ∧ J (k + 1) R' h2) ∨ (v = bo false ∧ ∃ R', R.le R' ∧ Jx (k + 1) R' h2)))) :
    Wc DD 33 [.sc (.yieldv idl), .sc (.ptr ib 0)] h fun w h' => w = .tup [] ∧ ((∃ R, R0.le R ∧ J b.L.length R h') ∨ (∃ k R, k < b.L.length ∧ R0.le R ∧ Jx (k + 1) R h')) := by
  have I0 := I
  obtain ⟨m0, m1, rl, ll, al, ring, g0, g1⟩ := I0
  have hrl := ha.ln
  refine W_enter d33 ?_
  show W _ (.code m33_code [.sc (.yieldv idl), .sc (.ptr ib 0), undefA, undefA, undefA, undefA, undefA, undefA, undefA, undefA, undefA, undefA, undefA, undefA, undefA, undefA, undefA, undefA, undefA, undefA, undefA, undefA, undefA, undefA, undefA, undefA, undefA, undefA, undefA, undefA, undefA, undefA, undefA, undefA, undefA, undefA, undefA, undefA] _) _
  unfold m33_code
  repeat' (first
    | (refine K_ops ?_; first
      | refine W_fastB rfl ?_
      | refine W_nil ?_
      | (refine K_call ?_; first
        | (refine W_callsN 22 rfl (w22 hs) rfl ?_; rintro _ hX ⟨rfl, rfl⟩; refine W_norm rfl ?_)
      )
      | (refine K_load ?_; first
        | (refine W_loadR hs rfl (by assumption) rfl ?_; refine W_norm rfl ?_)
      )
    )
    | (refine K_code ?_; first
      | refine W_seq ?_
      | refine W_ops ?_
      | refine W_block ?_
    )
    | refine seqK_n ?_)
  refine W_loopB [3, 4, 9, 10, 11, 12, 13, 14, 15, 16, 17, 18, 19, 20, 21, 22, 23, 24] [0, 1, 2, 3, 4, 5, 6, 7, 8, 9, 10, 11, 12, 13, 14, 15, 16, 17, 18, 19, 20, 21, 22, 23, 24, 25, 26, 27, 28, 29, 30, 31, 32, 33, 34, 35, 36, 37] (fun n' sl h' => ∃ (k : Nat) (lv : SV) (cl : Hp), sl = [(3, .sc lv), (9, .sc (.int .i64 (k : Int)))] ∧ n' = b.L.length - k ∧ k ≤ b.L.length ∧ AccS intE 3 lv (b.L.take k) cl ∧ Sep R0 (cl :: bkO id rv b :: c :: M) h') ?_ ?_
  · refine ⟨_, _, ⟨0, .nils, [], rfl, rfl, Nat.zero_le _, AccS.nil _, hs.nil⟩, EnvB.of rfl⟩
  clear hs
  rintro _ _ us _ h2 ⟨k, lv, cl, rfl, rfl, hk, hl, hs⟩ he
  refine W_spell he rfl ?_
  clear he
  unfold m33_l2
  by_cases hlt : k < b.L.length
  · obtain ⟨idr, kd, rfl, rfl, hkd⟩ := ha.pos (by omega)
    have hmod : (b.a + k) % b.r.length < b.r.length := Nat.mod_lt _ (by omega)
    have hrg := ring k hlt
    have hll := hl.ln
    repeat' (first
      | (refine K_ops ?_; first
        | refine W_fastB rfl ?_
        | refine W_nil ?_
      )
      | (refine K_code ?_; first
        | refine W_seq ?_
        | refine W_ops ?_
        | (refine W_cond rfl (fun hc => ?_) (fun hc => ?_) <;> (try rw [hc]) <;> (try simp only [decide_eq_true_eq, decide_eq_false_iff_not, beq_iff_eq, beq_eq_false_iff_ne, bne_iff_ne, bne_eq_false_iff_eq, Bool.not_eq_true', Bool.not_eq_false', Int.not_lt, Int.not_le, ne_eq, reduceCtorEq, not_true_eq_false, not_false_eq_true, Decidable.not_not] at hc) <;> (try (exfalso; omega)) <;> (try refine W_norm rfl ?_))
        | refine W_skip ?_
        | refine W_block ?_
      )
      | refine seqK_n ?_)
    repeat' (first
      | (refine K_ops ?_; first
        | refine W_fastB rfl ?_
        | refine W_nil ?_
        | (refine K_call ?_; first
          | (refine W_callsN 32 rfl (w32 (a := b.a) (n := b.r.length) (i := (k : Int)) (hs.front 1 rfl) hrl (by omega) (by omega) (by omega) (by omega)) rfl ?_; rintro _ hX ⟨rfl, rfl⟩; rw [Int.toNat_natCast]; refine W_norm rfl ?_)
        )
        | (refine K_bin ?_; first
          | (refine W_add rfl rfl (IntWalk.i64_in _ (by first | omega | (simp only [List.length_set, List.length_append, List.length_take, List.length_drop, List.length_replicate, List.length_cons, List.length_nil, decs_length, List.length_map]; omega))) ?_; refine W_norm rfl ?_)
        )
        | (refine K_index ?_; first
          | (refine W_indexO rfl rfl ⟨(by first | omega | (simp only [List.length_set, List.length_append, List.length_take, List.length_drop, List.length_replicate, List.length_cons, List.length_nil, decs_length, List.length_map]; omega)), (by first | omega | (simp only [List.length_set, List.length_append, List.length_take, List.length_drop, List.length_replicate, List.length_cons, List.length_nil, decs_length, List.length_map]; omega))⟩ ?_; refine W_norm rfl ?_)
        )
        | (refine K_load ?_; first
          | (refine W_loadR hs rfl (by assumption) rfl ?_; refine W_norm rfl ?_)
          | (refine W_loadC hs 1 rfl rfl rfl ?_; refine W_norm rfl ?_)
          | (refine W_loadO hs 2 rfl rfl rfl (by first | omega | (simp only [List.length_set, List.length_append, List.length_take, List.length_drop, List.length_replicate, List.length_cons, List.length_nil, decs_length, List.length_map]; omega)) rfl ?_; refine W_norm rfl ?_)
        )
        | (refine K_bslice ?_; first
          | (refine W_buildS1 intE hs rfl rfl ?_; intro _ _ _ _ hs; try simp only [cell_back, attr_back, List.set_cons_zero, List.set_cons_succ, List.eraseIdx_cons_succ, List.eraseIdx_zero, List.tail_cons, List.nil_append, List.cons_append] at hs; refine W_norm rfl ?_)
        )
        | (refine K_append ?_; first
          | (refine W_appS hs 1 rfl rfl (by assumption) rfl (by first | assumption | exact SlR.now hs (by assumption) | exact AccS.now (by assumption) hs (by simp) | exact OwnS.now (by assumption) hs (by simp)) rfl ⟨by decide, (by first | omega | (simp only [List.length_set, List.length_append, List.length_take, List.length_drop, List.length_replicate, List.length_cons, List.length_nil, decs_length, List.length_map]; omega))⟩ ?_; intro _ _ _ _ hs; try simp only [cell_back, attr_back, List.set_cons_zero, List.set_cons_succ, List.eraseIdx_cons_succ, List.eraseIdx_zero, List.tail_cons, List.nil_append, List.cons_append] at hs; refine W_norm rfl ?_)
        )
      )
      | (refine K_code ?_; first
        | refine W_ops ?_
        | refine W_draws ?_
      )
      | refine W_dstep rfl ?_
      | refine ⟨rfl, fun rc hrec => ?_⟩
      | (refine W_dnilS (by simp only [List.reverse_cons, List.reverse_nil, List.nil_append, List.cons_append]; rfl) (by repeat' first | exact CL_nil _ _ | refine CL_skip rfl ?_ | refine CL_load (by assumption) rfl (by first | exact trivial | (repeat' first | exact trivial | refine ⟨⟨_, rfl, (by refine (congrArg (fun x => Heap.get x _) (RecIs.hh (by assumption))).trans ?_; first | rfl | exact PtR.same_get (by assumption) (by assumption) (by assumption) | exact Sep.same_get (by assumption) (by assumption) 0 0 rfl rfl | exact Sep.same_get (by assumption) (by assumption) 0 1 rfl rfl | exact Sep.same_get (by assumption) (by assumption) 0 2 rfl rfl | exact Sep.same_get (by assumption) (by assumption) 0 3 rfl rfl | exact Sep.same_get (by assumption) (by assumption) 1 0 rfl rfl | exact Sep.same_get (by assumption) (by assumption) 1 1 rfl rfl | exact Sep.same_get (by assumption) (by assumption) 1 2 rfl rfl | exact Sep.same_get (by assumption) (by assumption) 1 3 rfl rfl | exact Sep.same_get (by assumption) (by assumption) 2 0 rfl rfl | exact Sep.same_get (by assumption) (by assumption) 2 1 rfl rfl | exact Sep.same_get (by assumption) (by assumption) 2 2 rfl rfl | exact Sep.same_get (by assumption) (by assumption) 2 3 rfl rfl | exact Sep.same_get (by assumption) (by assumption) 3 0 rfl rfl | exact Sep.same_get (by assumption) (by assumption) 3 1 rfl rfl | exact Sep.same_get (by assumption) (by assumption) 3 2 rfl rfl | exact Sep.same_get (by assumption) (by assumption) 3 3 rfl rfl)⟩, ?_⟩)) (by first | exact trivial | (repeat' first | exact trivial | refine ⟨⟨_, rfl, (by refine (congrArg (fun x => Heap.get x _) (RecIs.hh' (by assumption))).trans ?_; first | rfl | exact PtR.same_get (by assumption) (by assumption) (by assumption) | exact Sep.same_get (by assumption) (by assumption) 0 0 rfl rfl | exact Sep.same_get (by assumption) (by assumption) 0 1 rfl rfl | exact Sep.same_get (by assumption) (by assumption) 0 2 rfl rfl | exact Sep.same_get (by assumption) (by assumption) 0 3 rfl rfl | exact Sep.same_get (by assumption) (by assumption) 1 0 rfl rfl | exact Sep.same_get (by assumption) (by assumption) 1 1 rfl rfl | exact Sep.same_get (by assumption) (by assumption) 1 2 rfl rfl | exact Sep.same_get (by assumption) (by assumption) 1 3 rfl rfl | exact Sep.same_get (by assumption) (by assumption) 2 0 rfl rfl | exact Sep.same_get (by assumption) (by assumption) 2 1 rfl rfl | exact Sep.same_get (by assumption) (by assumption) 2 2 rfl rfl | exact Sep.same_get (by assumption) (by assumption) 2 3 rfl rfl | exact Sep.same_get (by assumption) (by assumption) 3 0 rfl rfl | exact Sep.same_get (by assumption) (by assumption) 3 1 rfl rfl | exact Sep.same_get (by assumption) (by assumption) 3 2 rfl rfl | exact Sep.same_get (by assumption) (by assumption) 3 3 rfl rfl)⟩, ?_⟩)) ?_) ?_)
      | refine seqK_n ?_
      | refine blockK_n ?_
      | refine invK_n ?_)
    have e : b.L.take (k + 1) = b.L.take k ++ [intE.dec [.int .i64 (b.r.getD ((((b.a + k) % b.r.length : Nat) : Int)).toNat intE.dflt)]] := by
      rw [List.take_add_one, getD_get? (d := (0 : Int)) hlt, Int.toNat_natCast]
      show _ = _ ++ [b.r.getD ((b.a + k) % b.r.length) 0]
      rw [hrg]; rfl
    refine ⟨_, ?_, _, ⟨k + 1, _, _, rfl, rfl, ?_, ?_, hs.drop 0⟩, EnvB.of rfl⟩
    · omega
    · omega
    · rw [e]; assumption
  · obtain rfl : k = b.L.length := by omega
    rw [List.take_of_length_le (by omega)] at hl
    have hlR : SlR intE (R0.add cl) lv b.L := hl.add R0
    replace hs := hs.freeze 0 rfl
    simp only [List.eraseIdx_cons_zero] at hs
    have hJ0 := h0 _ _ (Ro.le_add _ _) hs
    have hll := hl.ln
    repeat' (first
      | (refine K_ops ?_; first
        | refine W_fastB rfl ?_
        | refine W_nil ?_
        | (refine W_lenL rfl (by first | assumption | exact SlR.ln (by assumption) | exact AccS.ln (by assumption) | exact OwnS.ln (by assumption) | exact VwO.ln (by assumption) | exact OwnP.ln (by assumption) | exact Len.sl) ?_; refine W_norm rfl ?_)
      )
      | (refine K_code ?_; first
        | refine W_seq ?_
        | refine W_ops ?_
        | (refine W_cond rfl (fun hc => ?_) (fun hc => ?_) <;> (try rw [hc]) <;> (try simp only [decide_eq_true_eq, decide_eq_false_iff_not, beq_iff_eq, beq_eq_false_iff_ne, bne_iff_ne, bne_eq_false_iff_eq, Bool.not_eq_true', Bool.not_eq_false', Int.not_lt, Int.not_le, ne_eq, reduceCtorEq, not_true_eq_false, not_false_eq_true, Decidable.not_not] at hc) <;> (try (exfalso; omega)) <;> (try refine W_norm rfl ?_))
        | refine W_exit ?_
        | refine W_block ?_
      )
      | refine seqK_n ?_
      | refine seqK_x ?_
      | refine blockK_e ?_
      | refine invK_x ?_)
    refine W_loopB [5, 6, 27, 28, 29, 30, 31, 32, 33, 34, 35, 36, 37] [0, 1, 2, 3, 4, 5, 6, 7, 8, 9, 10, 11, 12, 13, 14, 15, 16, 17, 18, 19, 20, 21, 22, 23, 24, 25, 26, 27, 28, 29, 30, 31, 32, 33, 34, 35, 36, 37] (fun n' sl h' => ∃ (k : Nat) (R : Ro), sl = [(27, .sc (.int .i64 (k : Int)))] ∧ n' = b.L.length - k ∧ k ≤ b.L.length ∧ R0.le R ∧ SlR intE R lv b.L ∧ J k R h') ?_ ?_
    · refine ⟨_, _, ⟨0, R0.add cl, rfl, rfl, Nat.zero_le _, Ro.le_add _ _, hlR, hJ0⟩, EnvB.of rfl⟩
    clear hs hJ0 hlR
    rintro _ _ us _ h3 ⟨k, R, rfl, rfl, hk, hle, hlR, hJ⟩ he
    refine W_spell he rfl ?_
    clear he
    unfold m33_l8
    have hs : Sep R [] h3 := ⟨fun id o q => hJR _ _ _ hJ id o q, by simp, by simp, by simp⟩
    by_cases hlt : k < b.L.length
    · repeat' (first
        | (refine K_ops ?_; first
          | refine W_fastB rfl ?_
          | refine W_nil ?_
          | (refine W_callY rfl rfl (hY k R _ hlt hle hJ) ?_; rintro v hX (⟨rfl, R', hle', hJ'⟩ | ⟨rfl, R', hle', hJ'⟩) <;> refine W_norm rfl ?_)
          | (refine K_bin ?_; first
            | (refine W_add rfl rfl (IntWalk.i64_in _ (by first | omega | (simp only [List.length_set, List.length_append, List.length_take, List.length_drop, List.length_replicate, List.length_cons, List.length_nil, decs_length, List.length_map]; omega))) ?_; refine W_norm rfl ?_)
          )
          | (refine K_index ?_; first
            | (refine W_indexR rfl rfl (by assumption) rfl ⟨(by first | omega | (simp only [List.length_set, List.length_append, List.length_take, List.length_drop, List.length_replicate, List.length_cons, List.length_nil, decs_length, List.length_map]; omega)), (by first | omega | (simp only [List.length_set, List.length_append, List.length_take, List.length_drop, List.length_replicate, List.length_cons, List.length_nil, decs_length, List.length_map]; omega))⟩ ?_; intro _ _ _; refine W_norm rfl ?_)
          )
          | (refine K_load ?_; first
            | (refine W_loadR hs rfl (by assumption) rfl ?_; refine W_norm rfl ?_)
          )
        )
        | (refine K_code ?_; first
          | refine W_seq ?_
          | refine W_ops ?_
          | refine W_cond_t rfl ?_
          | refine W_cond_f rfl ?_
          | (refine W_cond rfl (fun hc => ?_) (fun hc => ?_) <;> (try rw [hc]) <;> (try simp only [decide_eq_true_eq, decide_eq_false_iff_not, beq_iff_eq, beq_eq_false_iff_ne, bne_iff_ne, bne_eq_false_iff_eq, Bool.not_eq_true', Bool.not_eq_false', Int.not_lt, Int.not_le, ne_eq, reduceCtorEq, not_true_eq_false, not_false_eq_true, Decidable.not_not] at hc) <;> (try (exfalso; omega)) <;> (try refine W_norm rfl ?_))
          | refine W_skip ?_
          | refine W_ret ?_
          | refine W_block ?_
        )
        | refine seqK_n ?_
        | refine seqK_r ?_
        | refine blockK_r ?_
        | refine blockK_n ?_
        | refine invK_r ?_
        | refine invK_n ?_
        | (refine fnK_r rfl ?_; try dsimp only [gd_z, gd_s]))
      · refine ⟨_, ?_, _, ⟨k + 1, R', rfl, rfl, ?_, fun _ _ q => hle' _ _ (hle _ _ q), hlR.mono hle', hJ'⟩, EnvB.of rfl⟩
        · omega
        · omega
      · exact ⟨_, rfl, rfl, .inr ⟨k, R', hlt, fun _ _ q => hle' _ _ (hle _ _ q), hJ'⟩⟩
    · obtain rfl : k = b.L.length := by omega
      repeat' (first
        | (refine K_ops ?_; first
          | refine W_fastB rfl ?_
          | refine W_nil ?_
        )
        | (refine K_code ?_; first
          | refine W_seq ?_
          | refine W_ops ?_
          | (refine W_cond rfl (fun hc => ?_) (fun hc => ?_) <;> (try rw [hc]) <;> (try simp only [decide_eq_true_eq, decide_eq_false_iff_not, beq_iff_eq, beq_eq_false_iff_ne, bne_iff_ne, bne_eq_false_iff_eq, Bool.not_eq_true', Bool.not_eq_false', Int.not_lt, Int.not_le, ne_eq, reduceCtorEq, not_true_eq_false, not_false_eq_true, Decidable.not_not] at hc) <;> (try (exfalso; omega)) <;> (try refine W_norm rfl ?_))
          | refine W_exit ?_
        )
        | refine seqK_n ?_
        | refine seqK_x ?_
        | refine blockK_e ?_
        | refine invK_x ?_
        | (refine fnK_n rfl ?_; try dsimp only [gd_z, gd_s]))
      exact ⟨_, rfl, rfl, .inl ⟨R, hle, hJ⟩⟩
end Go.Proofs.Ytjadhoelknmnkaa
/- A back: Last. -/
set_option linter.unusedSimpArgs false
set_option linter.unusedVariables false
set_option maxHeartbeats 1000000
set_option maxRecDepth 100000
namespace Go.Proofs.Ytjadhoelknmnkaa
open Go Go.Jx

/-- The newest ones. -/
def lastL (L : List Int) (n : Int) : List Int := L.drop ((L.length : Int) - max n 0).toNat
theorem ptR_mono {R R' : Ro} {id o : Nat} {ch : List SV} (p : PtR R id o ch) (l : R.le R') : PtR R' id o ch := by
  obtain ⟨t, kd, cs, h1, h2⟩ := p
  exact ⟨t, kd, cs, l _ _ h1, h2⟩
theorem w11_r {R1 : Ro} {M : List Hp} {h1 : Heap} {e : List AV} {idl d ib o6 ob id : Nat} {rv : SV} {b : Bk} {c : Hp} {F : Int} (he : EnvIs 26 [(5, .sc (.ptr ob 0)), (6, .sc (.ptr o6 0))] e) (hs1 : Sep R1 (lpO idl e [16, 17] m11_l4 m11_l5 .ready d :: [(d, .dfr)] :: [(ob, .cells 22 .own [.nils])] :: bkO id rv b :: c :: M) h1)
    (ha : AccS intE 3 rv b.r c) (I : BkI b) (hib : PtR R1 ib 0 [.ptr id 0]) (hfp : PtR R1 o6 0 [.int .i64 F]) :
    W DD (.call 33 [.sc (.yieldv idl), .sc (.ptr ib 0)] h1) (fun _ vs h2 => vs = [.tup []] ∧ ∃ R2 ov co, R1.le R2 ∧ AccS intE 3 ov (b.L.drop F.toNat) co ∧ Sep R2 (lpO idl e [16, 17] m11_l4 m11_l5 .ready d :: [(d, .dfr)] :: [(ob, .cells 22 .own [ov])] :: co :: bkO id rv b :: c :: M) h2) := by
  have ll := I.ll
  have rl := I.rl
  have m1 := I.m1
  refine (w33 (M := lpO idl e [16, 17] m11_l4 m11_l5 .ready d :: [(d, .dfr)] :: [(ob, .cells 22 .own [.nils])] :: M) (R0 := R1) (J := fun k R h => ∃ ov co, AccS intE 3 ov ((b.L.take k).drop F.toNat) co ∧ Sep R (lpO idl e [16, 17] m11_l4 m11_l5 .ready d :: [(d, .dfr)] :: [(ob, .cells 22 .own [ov])] :: co :: bkO id rv b :: c :: M) h) (Jx := fun _ _ _ => False) (hs1.reord (fun a => by simp only [List.flatten_cons, List.flatten_nil, List.count_append, List.count_nil, hpOf_append, hpOf_cons, hpOf_nil, List.append_nil, List.eraseIdx_cons_succ, List.eraseIdx_zero, List.tail_cons] <;> omega)) ha I hib (fun k R h ⟨ov, co, q1, q2⟩ => q2.le) (fun R h' hle hs => ⟨.nils, [], by rw [List.take_zero, List.drop_nil]; exact AccS.nil _, hs.reord (fun a => by simp only [List.flatten_cons, List.flatten_nil, List.count_append, List.count_nil, hpOf_append, hpOf_cons, hpOf_nil, List.append_nil, List.eraseIdx_cons_succ, List.eraseIdx_zero, List.tail_cons] <;> omega)⟩) ?_).mono ?_
  · rintro k R h hlt hle ⟨ov, co, hov, hs⟩
    have hfp' := ptR_mono hfp hle
    obtain ⟨us, rfl⟩ := he.list
    rw [show mkE us [(5, .sc (.ptr ob 0)), (6, .sc (.ptr o6 0))] 0 26 = [us 0, us 1, us 2, us 3, us 4, .sc (.ptr ob 0), .sc (.ptr o6 0), us 7, us 8, us 9, us 10, us 11, us 12, us 13, us 14, us 15, us 16, us 17, us 18, us 19, us 20, us 21, us 22, us 23, us 24, us 25] from rfl] at hs ⊢
    refine W_yieldS hs rfl ?_
    simp only [setAll, List.set_cons_succ, List.set_cons_zero]
    refine W_codeE (show m11_l4 = (.seq (.ops m11_r6) (.ops m11_r7)) from rfl) ?_
    repeat' (first
      | (refine K_ops ?_; first
        | refine W_fastB rfl ?_
        | refine W_nil ?_
      )
      | (refine K_code ?_; first
        | refine W_seq ?_
        | refine W_ops ?_
      )
      | refine seqK_n ?_)
    refine ⟨rfl, rfl, fun h2 hs2 => ?_⟩
    clear hs
    have hs := hs2
    clear hs2
    refine W_codeE (show m11_l5 = (.block 1 (.seq (.ops m11_r8) (.cond (.t 20) (.ops m11_r9) .skip))) from rfl) ?_
    have hol := hov.ln
    have et : b.L.take (k + 1) = b.L.take k ++ [b.L.getD k 0] := by rw [List.take_add_one, getD_get? (d := (0 : Int)) hlt]; rfl
    have hlk : (b.L.take k).length = k := by rw [List.length_take]; omega
    have hdl : ((b.L.take k).drop F.toNat).length ≤ 500 := by rw [List.length_drop]; omega
    repeat' (first
      | (refine K_ops ?_; first
        | refine W_fastB rfl ?_
        | refine W_nil ?_
        | (refine K_load ?_; first
          | (refine W_loadR hs rfl (by assumption) rfl ?_; refine W_norm rfl ?_)
          | (refine W_loadC hs 2 rfl rfl rfl ?_; refine W_norm rfl ?_)
        )
        | (refine K_store ?_; first
          | (refine W_storeC hs 2 rfl rfl rfl rfl (by first | decide | assumption) rfl rfl ?_; clear hs; intro _ hs; try simp only [cell_back, attr_back, List.set_cons_zero, List.set_cons_succ, List.eraseIdx_cons_succ, List.eraseIdx_zero, List.tail_cons, List.nil_append, List.cons_append] at hs; refine W_norm rfl ?_)
        )
        | (refine K_bslice ?_; first
          | (refine W_appB1 intE hs 3 rfl rfl rfl (by assumption) rfl rfl rfl ⟨by decide, (by first | omega | (simp only [List.length_set, List.length_append, List.length_take, List.length_drop, List.length_replicate, List.length_cons, List.length_nil, decs_length, List.length_map]; omega))⟩ ?_; clear hs; intro _ _ _ _ _ hs; try simp only [cell_back, attr_back, List.set_cons_zero, List.set_cons_succ, List.eraseIdx_cons_succ, List.eraseIdx_zero, List.tail_cons, List.nil_append, List.cons_append] at hs; refine W_norm rfl ?_)
        )
      )
      | (refine K_code ?_; first
        | refine W_seq ?_
        | refine W_ops ?_
        | (refine W_cond rfl (fun hc => ?_) (fun hc => ?_) <;> (try rw [hc]) <;> (try simp only [decide_eq_true_eq, decide_eq_false_iff_not, beq_iff_eq, beq_eq_false_iff_ne, bne_iff_ne, bne_eq_false_iff_eq, Bool.not_eq_true', Bool.not_eq_false', Int.not_lt, Int.not_le, ne_eq, reduceCtorEq, not_true_eq_false, not_false_eq_true, Decidable.not_not] at hc) <;> (try (exfalso; omega)) <;> (try refine W_norm rfl ?_))
        | refine W_skip ?_
        | refine W_block ?_
      )
      | refine seqK_n ?_
      | refine blockK_n ?_)
    · refine roundK_n hs ?_
      intro h4 hs
      refine ⟨_, rfl, .inl ⟨rfl, R, fun _ _ q => q, _, _, ?_, hs⟩⟩
      rw [et, List.drop_append, show F.toNat - (b.L.take k).length = 0 by omega, List.drop_zero]
      assumption
    · refine roundK_n hs ?_
      intro h4 hs
      refine ⟨_, rfl, .inl ⟨rfl, R, fun _ _ q => q, _, _, ?_, hs⟩⟩
      rw [et, List.drop_append, List.drop_of_length_le (l := [b.L.getD k 0]) (by simp; omega), List.append_nil]
      exact hov
  · rintro _ _ h2 ⟨v, rfl, rfl, ⟨R, hle, ov, co, q1, q2⟩ | ⟨_, _, _, _, hf⟩⟩
    · rw [List.take_length] at q1
      exact ⟨rfl, R, ov, co, hle, q1, q2⟩
    · exact hf.elim
theorem w11 {R : Ro} {M : List Hp} {h : Heap} {id : Nat} {rv : SV} {b : Bk} {c : Hp} {n : Int} (hs : Sep R (bkO id rv b :: c :: M) h) (ha : AccS intE 3 rv b.r c) (I : BkI b) (hn : -9223372036854775808 ≤ n ∧ n ≤ 9223372036854775807) :
    Wc DD 11 [.sc (.ptr id 0), i64 n] h fun w h' => ∃ u cu, w = .sc u ∧ AccS intE 3 u (lastL b.L n) cu ∧ Sep R (cu :: bkO id rv b :: c :: M) h' := by
  have I0 := I
  obtain ⟨m0, m1, rl, ll, aal, ring, g0, g1⟩ := I0
  have hR0 : ∀ id o, R id o → id < h.n := fun id o q => Heap.get_lt (hs.ro _ _ q)
  have hM0 : ∀ p ∈ M.flatten, p.1 < h.n := fun p hp => Heap.get_lt (hs.get p (by simp [hp]))
  refine W_enter d11 ?_
  show W _ (.code m11_code [.sc (.ptr id 0), i64 n, undefA, undefA, undefA, undefA, undefA, undefA, undefA, undefA, undefA, undefA, undefA, undefA, undefA, undefA, undefA, undefA, undefA, undefA, undefA, undefA, undefA, undefA, undefA, undefA] _) _
  unfold m11_code
  repeat' (first
    | (refine K_ops ?_; first
      | refine W_fastB rfl ?_
      | refine W_nil ?_
      | (refine W_allocS hs ?_; clear hs; intro al _ hs; try simp only [cell_back, attr_back, List.set_cons_zero, List.set_cons_succ, List.eraseIdx_cons_succ, List.eraseIdx_zero, List.tail_cons, List.nil_append, List.cons_append] at hs; refine W_norm rfl ?_)
    )
    | (refine K_code ?_; first
      | (refine W_midB (a := .ops m11_r1) [5] [0, 1, 2, 3, 4, 5, 6, 7, 8, 9, 10, 11, 12, 13, 14, 15, 16, 17, 18, 19, 20, 21, 22, 23, 24, 25] (fun sl h' => ∃ (ob : Nat), sl = [(5, .sc (.ptr ob 0))] ∧ Sep R ([(ob, .cells 22 .own [.nils])] :: bkO id rv b :: c :: M) h') ?_ ?_)
      | refine W_seq ?_
      | refine W_ops ?_
      | refine W_marked ?_
    )
    | refine seqK_n ?_
    | refine midK_n ?_)
  · exact ⟨_, ⟨_, rfl, hs⟩, EnvB.of rfl⟩
  have hs0 := hs
  clear hs
  rintro _ us _ h2 ⟨ob, rfl, hs⟩ he
  refine W_spell he rfl ?_
  clear he
  obtain ⟨F, hF⟩ : ∃ F, F = (b.L.length : Int) - max n 0 := ⟨_, rfl⟩
  repeat' (first
    | (refine K_ops ?_; first
      | refine W_fastB rfl ?_
      | refine W_nil ?_
      | (refine K_call ?_; first
        | (refine W_callsN 22 rfl (w22 (hs.front 1 rfl)) rfl ?_; rintro _ hX ⟨rfl, rfl⟩; refine W_norm rfl ?_)
        | (refine W_callsN 12 rfl (w12) rfl ?_; rintro _ hX ⟨ib, rfl, t⟩; replace hs := hs.call t; try simp only [cell_back, attr_back, List.set_cons_zero, List.set_cons_succ, List.eraseIdx_cons_succ, List.eraseIdx_zero, List.tail_cons, List.nil_append, List.cons_append] at hs; refine W_norm rfl ?_)
      )
      | (refine K_bin ?_; first
        | (refine W_sub rfl rfl (IntWalk.i64_in _ (by first | omega | (simp only [List.length_set, List.length_append, List.length_take, List.length_drop, List.length_replicate, List.length_cons, List.length_nil, decs_length, List.length_map]; omega))) ?_; refine W_norm rfl ?_)
      )
      | (refine K_store ?_; first
        | (refine W_storeC hs 0 rfl rfl rfl rfl (by first | decide | assumption) rfl rfl ?_; clear hs; intro _ hs; try simp only [cell_back, attr_back, List.set_cons_zero, List.set_cons_succ, List.eraseIdx_cons_succ, List.eraseIdx_zero, List.tail_cons, List.nil_append, List.cons_append] at hs; refine W_norm rfl ?_)
      )
      | (refine W_allocS hs ?_; clear hs; intro al _ hs; try simp only [cell_back, attr_back, List.set_cons_zero, List.set_cons_succ, List.eraseIdx_cons_succ, List.eraseIdx_zero, List.tail_cons, List.nil_append, List.cons_append] at hs; refine W_norm rfl ?_)
      | (refine W_max2 rfl rfl ?_; refine W_norm rfl ?_)
    )
    | (refine K_code ?_; first
      | refine W_seq ?_
      | refine W_ops ?_
      | refine W_block ?_
    )
    | refine seqK_n ?_)
  rw [← hF] at hs
  replace hs := (hs.freeze 0 rfl).freeze 0 rfl
  simp only [List.eraseIdx_cons_zero, List.eraseIdx_zero, List.tail_cons] at hs
  obtain ⟨R1, hRe, hib, hfp, hs⟩ : ∃ R1 : Ro, R.le R1 ∧ PtR R1 ib 0 [.ptr id 0] ∧ PtR R1 al 0 [.int .i64 F] ∧ Sep R1 ([(ob, .cells 22 .own [.nils])] :: bkO id rv b :: c :: M) hX := ⟨_, fun _ _ q => .inl (.inl q), ⟨_, _, _, .inl (.inr (List.mem_singleton.2 rfl)), rfl⟩, ⟨_, _, _, .inr (List.mem_singleton.2 rfl), rfl⟩, hs⟩
  refine W_rangeS hs rfl fun idl d h1 hs1 => ?_
  refine (w11_r (o6 := al) ⟨rfl, rfl, rfl, trivial⟩ hs1 ha I hib hfp).mono ?_
  rintro _ _ h3 ⟨rfl, R2, ov, co, hle, hov, hs⟩
  refine ⟨⟨_, rfl⟩, R2, _, .inl ⟨hs, fun h4 hs => ?_⟩⟩
  refine blockK_n ?_
  refine seqK_n ?_
  repeat' (first
    | (refine K_ops ?_; first
      | refine W_fastB rfl ?_
      | refine W_nil ?_
      | (refine K_load ?_; first
        | (refine W_loadC hs 1 rfl rfl rfl ?_; refine W_norm rfl ?_)
      )
    )
    | (refine K_code ?_; first
      | refine W_seq ?_
      | refine W_ops ?_
      | refine W_ret ?_
    )
    | refine seqK_n ?_)
  refine markK_r ?_
  replace hs := ((hs.drop 0).drop 0).thin (fun _ _ q => hle _ _ (hRe _ _ q))
  simp only [List.eraseIdx_cons_zero] at hs
  replace hs := hs.shutG (n0 := h.n) hR0 (fun p hp => by
    simp only [List.flatten_cons, List.mem_append] at hp
    rcases hp with hp | hp | hp | hp
    · exact .inr (hov.noDfr p hp)
    · exact .inr (by rcases List.mem_singleton.1 hp with rfl; intro hh; cases hh)
    · exact .inr (ha.noDfr p hp)
    · exact .inl (hM0 p hp))
  repeat' (first
    | (refine fnK_r rfl ?_; try dsimp only [gd_z, gd_s]))
  refine ⟨_, rfl, _, _, rfl, ?_, hs⟩
  unfold lastL
  rw [← hF]; exact hov
end Go.Proofs.Ytjadhoelknmnkaa
/- A back: all that a walk tells; the same numbers. -/
set_option linter.unusedSimpArgs false
set_option linter.unusedVariables false
set_option maxHeartbeats 1000000
set_option maxRecDepth 100000
namespace Go.Proofs.Ytjadhoelknmnkaa
open Go Go.Jx

theorem w14 {u v : SV} {A B : List Int} {h : Heap} (hu : SlR intE (Now h) u A) (hv : SlR intE (Now h) v B) (hlA : A.length ≤ 2 ^ 62) (hlB : B.length ≤ 2 ^ 62) : Wc DD 14 [.sc u, .sc v] h fun w h' => w = bo (decide (A = B)) ∧ h' = h := by
  have hs := Sep.entry h
  refine W_enter d14 ?_
  show W _ (.code m14_code [.sc u, .sc v, undefA, undefA, undefA, undefA, undefA, undefA, undefA, undefA, undefA, undefA, undefA, undefA, undefA, undefA, undefA, undefA, undefA, undefA, undefA, undefA, undefA, undefA, undefA, undefA] _) _
  unfold m14_code
  repeat' (first
    | (refine K_ops ?_; first
      | refine W_fastB rfl ?_
      | refine W_nil ?_
      | (refine W_lenL rfl (by first | assumption | exact SlR.ln (by assumption) | exact AccS.ln (by assumption) | exact OwnS.ln (by assumption) | exact VwO.ln (by assumption) | exact OwnP.ln (by assumption) | exact Len.sl) ?_; refine W_norm rfl ?_)
    )
    | (refine K_code ?_; first
      | refine W_seq ?_
      | refine W_ops ?_
      | (refine W_cond rfl (fun hc => ?_) (fun hc => ?_) <;> (try rw [hc]) <;> (try simp only [decide_eq_true_eq, decide_eq_false_iff_not, beq_iff_eq, beq_eq_false_iff_ne, bne_iff_ne, bne_eq_false_iff_eq, Bool.not_eq_true', Bool.not_eq_false', Int.not_lt, Int.not_le, ne_eq, reduceCtorEq, not_true_eq_false, not_false_eq_true, Decidable.not_not] at hc) <;> (try (exfalso; omega)) <;> (try refine W_norm rfl ?_))
      | refine W_skip ?_
      | refine W_ret ?_
      | refine W_block ?_
    )
    | refine seqK_n ?_
    | refine seqK_r ?_
    | (refine fnK_r rfl ?_; try dsimp only [gd_z, gd_s]))
  · have hne : A ≠ B := by rintro rfl; exact hc rfl
    exact ⟨_, rfl, by rw [decide_eq_false hne], rfl⟩
  have hlen : A.length = B.length := by omega
  refine W_loopB [4, 5, 11, 12, 13, 14, 15, 16, 17, 18, 19, 20, 21, 22, 23, 24, 25] [0, 1, 2, 3, 4, 5, 6, 7, 8, 9, 10, 11, 12, 13, 14, 15, 16, 17, 18, 19, 20, 21, 22, 23, 24, 25] (fun n' sl h' => ∃ (k : Nat), sl = [(5, .sc (.int .i64 (k : Int)))] ∧ n' = A.length - k ∧ k ≤ A.length ∧ h' = h ∧ A.take k = B.take k) ?_ ?_
  · refine ⟨_, _, ⟨0, rfl, rfl, Nat.zero_le _, rfl, rfl⟩, EnvB.of rfl⟩
  rintro _ _ us _ h2 ⟨k, rfl, rfl, hk, rfl, hw⟩ he
  refine W_spell he rfl ?_
  clear he
  unfold m14_l4
  repeat' (first
    | (refine K_ops ?_; first
      | refine W_fastB rfl ?_
      | refine W_nil ?_
      | (refine W_lenL rfl (by first | assumption | exact SlR.ln (by assumption) | exact AccS.ln (by assumption) | exact OwnS.ln (by assumption) | exact VwO.ln (by assumption) | exact OwnP.ln (by assumption) | exact Len.sl) ?_; refine W_norm rfl ?_)
      | (refine K_bin ?_; first
        | (refine W_add rfl rfl (IntWalk.i64_in _ (by first | omega | (simp only [List.length_set, List.length_append, List.length_take, List.length_drop, List.length_replicate, List.length_cons, List.length_nil, decs_length, List.length_map]; omega))) ?_; refine W_norm rfl ?_)
      )
      | (refine K_index ?_; first
        | (refine W_indexR rfl rfl (by assumption) rfl ⟨(by first | omega | (simp only [List.length_set, List.length_append, List.length_take, List.length_drop, List.length_replicate, List.length_cons, List.length_nil, decs_length, List.length_map]; omega)), (by first | omega | (simp only [List.length_set, List.length_append, List.length_take, List.length_drop, List.length_replicate, List.length_cons, List.length_nil, decs_length, List.length_map]; omega))⟩ ?_; intro _ _ _; refine W_norm rfl ?_)
      )
      | (refine K_load ?_; first
        | (refine W_loadR hs rfl (by assumption) rfl ?_; refine W_norm rfl ?_)
      )
    )
    | (refine K_code ?_; first
      | refine W_seq ?_
      | refine W_ops ?_
      | (refine W_cond rfl (fun hc => ?_) (fun hc => ?_) <;> (try rw [hc]) <;> (try simp only [decide_eq_true_eq, decide_eq_false_iff_not, beq_iff_eq, beq_eq_false_iff_ne, bne_iff_ne, bne_eq_false_iff_eq, Bool.not_eq_true', Bool.not_eq_false', Int.not_lt, Int.not_le, ne_eq, reduceCtorEq, not_true_eq_false, not_false_eq_true, Decidable.not_not] at hc) <;> (try (exfalso; omega)) <;> (try refine W_norm rfl ?_))
      | refine W_skip ?_
      | refine W_ret ?_
      | refine W_exit ?_
      | refine W_block ?_
      | refine W_draw rfl ?_
    )
    | refine seqK_n ?_
    | refine seqK_r ?_
    | refine seqK_x ?_
    | refine blockK_r ?_
    | refine blockK_n ?_
    | refine blockK_e ?_
    | refine invK_x ?_
    | refine invK_r ?_
    | refine invK_n ?_
    | (refine fnK_r rfl ?_; try dsimp only [gd_z, gd_s]))
  · refine ⟨_, rfl, ?_, rfl⟩
    rw [decide_eq_false]
    rintro rfl
    exact hc rfl
  · refine ⟨_, ?_, _, ⟨k + 1, rfl, rfl, ?_, rfl, ?_⟩, EnvB.of rfl⟩
    · omega
    · omega
    · have hcc : A.getD k 0 = B.getD k 0 := hc
      rw [List.take_add_one, List.take_add_one, hw, getD_get? (d := (0 : Int)) (show k < A.length by omega), getD_get? (d := (0 : Int)) (show k < B.length by omega), hcc]
  · refine ⟨_, rfl, ?_, rfl⟩
    rw [List.take_of_length_le (by omega), List.take_of_length_le (by omega)] at hw
    rw [decide_eq_true hw]
theorem w28_r {R1 : Ro} {M : List Hp} {h1 : Heap} {e : List AV} {idl d ib o3 ob id : Nat} {rv : SV} {b : Bk} {c o4 : Hp} {m : Int} (he : EnvIs 30 [(3, .sc (.ptr o3 0)), (5, .sc (.ptr ob 0))] e) (hs1 : Sep R1 (lpO idl e [15, 16] m28_l7 m28_l8 .ready d :: [(d, .dfr)] :: [(ob, .cells 22 .own [.nils])] :: o4 :: bkO id rv b :: c :: M) h1)
    (ha : AccS intE 3 rv b.r c) (I : BkI b) (hib : PtR R1 ib 0 [.ptr id 0]) (hfp : PtR R1 o3 0 [.int .i64 m]) (hm : 1 ≤ m ∧ m ≤ 100000) :
    W DD (.call 33 [.sc (.yieldv idl), .sc (.ptr ib 0)] h1) (fun _ vs h2 => vs = [.tup []] ∧ ∃ R2 ov co st, R1.le R2 ∧ AccS intE 3 ov (b.L.take m.toNat) co ∧ (st = .ready ∨ st = .done (.exit 0)) ∧ Sep R2 (lpO idl e [15, 16] m28_l7 m28_l8 st d :: [(d, .dfr)] :: [(ob, .cells 22 .own [ov])] :: co :: o4 :: bkO id rv b :: c :: M) h2) := by
  have ll := I.ll
  have rl := I.rl
  have m1 := I.m1
  refine (w33 (M := lpO idl e [15, 16] m28_l7 m28_l8 .ready d :: [(d, .dfr)] :: [(ob, .cells 22 .own [.nils])] :: o4 :: M) (R0 := R1)
    (J := fun k R h => ∃ ov co, (k : Int) < m ∧ AccS intE 3 ov (b.L.take k) co ∧ Sep R (lpO idl e [15, 16] m28_l7 m28_l8 .ready d :: [(d, .dfr)] :: [(ob, .cells 22 .own [ov])] :: co :: o4 :: bkO id rv b :: c :: M) h)
    (Jx := fun k R h => ∃ ov co, (k : Int) = m ∧ AccS intE 3 ov (b.L.take k) co ∧ Sep R (lpO idl e [15, 16] m28_l7 m28_l8 (.done (.exit 0)) d :: [(d, .dfr)] :: [(ob, .cells 22 .own [ov])] :: co :: o4 :: bkO id rv b :: c :: M) h) (hs1.reord (fun a => by simp only [List.flatten_cons, List.flatten_nil, List.count_append, List.count_nil, hpOf_append, hpOf_cons, hpOf_nil, List.append_nil, List.eraseIdx_cons_succ, List.eraseIdx_zero, List.tail_cons] <;> omega)) ha I hib (fun k R h ⟨ov, co, _, q1, q2⟩ => q2.le) (fun R h' hle hs => ⟨.nils, [], by omega, by rw [List.take_zero]; exact AccS.nil _, hs.reord (fun a => by simp only [List.flatten_cons, List.flatten_nil, List.count_append, List.count_nil, hpOf_append, hpOf_cons, hpOf_nil, List.append_nil, List.eraseIdx_cons_succ, List.eraseIdx_zero, List.tail_cons] <;> omega)⟩) ?_).mono ?_
  · rintro k R h hlt hle ⟨ov, co, hkm, hov, hs⟩
    have hfp' := ptR_mono hfp hle
    obtain ⟨us, rfl⟩ := he.list
    rw [show mkE us [(3, .sc (.ptr o3 0)), (5, .sc (.ptr ob 0))] 0 30 = [us 0, us 1, us 2, .sc (.ptr o3 0), us 4, .sc (.ptr ob 0), us 6, us 7, us 8, us 9, us 10, us 11, us 12, us 13, us 14, us 15, us 16, us 17, us 18, us 19, us 20, us 21, us 22, us 23, us 24, us 25, us 26, us 27, us 28, us 29] from rfl] at hs ⊢
    refine W_yieldS hs rfl ?_
    simp only [setAll, List.set_cons_succ, List.set_cons_zero]
    refine W_codeE (show m28_l7 = (.seq (.ops m28_r9) (.ops m28_r10)) from rfl) ?_
    repeat' (first
      | (refine K_ops ?_; first
        | refine W_fastB rfl ?_
        | refine W_nil ?_
      )
      | (refine K_code ?_; first
        | refine W_seq ?_
        | refine W_ops ?_
      )
      | refine seqK_n ?_)
    refine ⟨rfl, rfl, fun h2 hs2 => ?_⟩
    clear hs
    have hs := hs2
    clear hs2
    refine W_codeE (show m28_l8 = (.block 1 (.seq (.seq (.ops m28_r11) (.cond (.t 20) (.seq (.ops m28_r12) .ret) .skip)) (.seq (.ops m28_r13) (.seq (.ops m28_r14) (.cond (.t 28) (.exit 0) .skip))))) from rfl) ?_
    have hlk : (b.L.take k).length = k := by rw [List.length_take]; omega
    have hol := hov.ln
    rw [hlk] at hol
    have et : b.L.take (k + 1) = b.L.take k ++ [b.L.getD k 0] := by rw [List.take_add_one, getD_get? (d := (0 : Int)) hlt]; rfl
    have hal : (b.L.take k ++ [intE.dec [.int .i64 (b.L.getD k 0)]]).length = k + 1 := by rw [List.length_append, hlk]; rfl
    repeat' (first
      | (refine K_ops ?_; first
        | refine W_fastB rfl ?_
        | refine W_nil ?_
        | (refine W_lenL rfl (by first | assumption | exact SlR.ln (by assumption) | exact AccS.ln (by assumption) | exact OwnS.ln (by assumption) | exact VwO.ln (by assumption) | exact OwnP.ln (by assumption) | exact Len.sl) ?_; refine W_norm rfl ?_)
        | (refine K_load ?_; first
          | (refine W_loadR hs rfl (by assumption) rfl ?_; refine W_norm rfl ?_)
          | (refine W_loadC hs 2 rfl rfl rfl ?_; refine W_norm rfl ?_)
        )
        | (refine K_store ?_; first
          | (refine W_storeC hs 2 rfl rfl rfl rfl (by first | decide | assumption) rfl rfl ?_; clear hs; intro _ hs; try simp only [cell_back, attr_back, List.set_cons_zero, List.set_cons_succ, List.eraseIdx_cons_succ, List.eraseIdx_zero, List.tail_cons, List.nil_append, List.cons_append] at hs; refine W_norm rfl ?_)
        )
        | (refine K_bslice ?_; first
          | (refine W_appB1 intE hs 3 rfl rfl rfl (by assumption) rfl rfl rfl ⟨by decide, (by first | omega | (simp only [List.length_set, List.length_append, List.length_take, List.length_drop, List.length_replicate, List.length_cons, List.length_nil, decs_length, List.length_map]; omega))⟩ ?_; clear hs; intro _ _ _ _ _ hs; try simp only [cell_back, attr_back, List.set_cons_zero, List.set_cons_succ, List.eraseIdx_cons_succ, List.eraseIdx_zero, List.tail_cons, List.nil_append, List.cons_append] at hs; refine W_norm rfl ?_)
        )
      )
      | (refine K_code ?_; first
        | refine W_seq ?_
        | refine W_ops ?_
        | (refine W_cond rfl (fun hc => ?_) (fun hc => ?_) <;> (try rw [hc]) <;> (try simp only [decide_eq_true_eq, decide_eq_false_iff_not, beq_iff_eq, beq_eq_false_iff_ne, bne_iff_ne, bne_eq_false_iff_eq, Bool.not_eq_true', Bool.not_eq_false', Int.not_lt, Int.not_le, ne_eq, reduceCtorEq, not_true_eq_false, not_false_eq_true, Decidable.not_not] at hc) <;> (try (exfalso; omega)) <;> (try refine W_norm rfl ?_))
        | refine W_skip ?_
        | refine W_exit ?_
        | refine W_block ?_
      )
      | refine seqK_n ?_
      | refine blockK_n ?_
      | refine blockK_x rfl ?_)
    · refine roundK_x hs ?_
      intro h4 hs
      refine ⟨_, rfl, .inr ⟨rfl, R, fun _ _ q => q, _, _, by omega, ?_, hs⟩⟩
      rw [et]; assumption
    · refine roundK_n hs ?_
      intro h4 hs
      refine ⟨_, rfl, .inl ⟨rfl, R, fun _ _ q => q, _, _, by omega, ?_, hs⟩⟩
      rw [et]; assumption
  · rintro _ _ h2 ⟨v, rfl, rfl, ⟨R, hle, ov, co, q0, q1, q2⟩ | ⟨k, R, hk, hle, ov, co, q0, q1, q2⟩⟩
    · rw [List.take_length] at q1
      refine ⟨rfl, R, ov, co, _, hle, ?_, .inl rfl, q2⟩
      rw [List.take_of_length_le (by omega)]; exact q1
    · refine ⟨rfl, R, ov, co, _, hle, ?_, .inr rfl, q2⟩
      rw [show m.toNat = k + 1 by omega]; exact q1
theorem w28 {R : Ro} {M : List Hp} {h : Heap} {id : Nat} {rv : SV} {b : Bk} {c : Hp} {m : Int} (hs : Sep R (bkO id rv b :: c :: M) h) (ha : AccS intE 3 rv b.r c) (I : BkI b) (hm : 1 ≤ m ∧ m ≤ 100000) :
    Wc DD 28 [.sc (.ptr id 0), i64 m] h fun w h' => ∃ u cu, w = .sc u ∧ AccS intE 3 u (b.L.take m.toNat) cu ∧ Sep R (cu :: bkO id rv b :: c :: M) h' := by
  have hR0 : ∀ id o, R id o → id < h.n := fun id o q => Heap.get_lt (hs.ro _ _ q)
  have hM0 : ∀ p ∈ M.flatten, p.1 < h.n := fun p hp => Heap.get_lt (hs.get p (by simp [hp]))
  refine W_enter d28 ?_
  show W _ (.code m28_code [.sc (.ptr id 0), i64 m, undefA, undefA, undefA, undefA, undefA, undefA, undefA, undefA, undefA, undefA, undefA, undefA, undefA, undefA, undefA, undefA, undefA, undefA, undefA, undefA, undefA, undefA, undefA, undefA, undefA, undefA, undefA, undefA] _) _
  unfold m28_code
  repeat' (first
    | (refine K_ops ?_; first
      | refine W_nil ?_
      | (refine W_allocS hs ?_; clear hs; intro al _ hs; try simp only [cell_back, attr_back, List.set_cons_zero, List.set_cons_succ, List.eraseIdx_cons_succ, List.eraseIdx_zero, List.tail_cons, List.nil_append, List.cons_append] at hs; refine W_norm rfl ?_)
      | (refine W_boxS hs rfl rfl ?_; clear hs; intro bx _ hs; try simp only [cell_back, attr_back, List.set_cons_zero, List.set_cons_succ, List.eraseIdx_cons_succ, List.eraseIdx_zero, List.tail_cons, List.nil_append, List.cons_append] at hs; refine W_norm rfl ?_)
    )
    | (refine K_code ?_; first
      | (refine W_midB (a := .ops m28_r0) [3, 4] [0, 1, 2, 3, 4, 5, 6, 7, 8, 9, 10, 11, 12, 13, 14, 15, 16, 17, 18, 19, 20, 21, 22, 23, 24, 25, 26, 27, 28, 29] (fun sl h' => ∃ (o3 o4 : Nat), sl = [(3, .sc (.ptr o3 0)), (4, .sc (.ptr o4 0))] ∧ Sep R ([(o4, .cells 22 .own [.nils])] :: [(o3, .cells 3 .own [.int .i64 m])] :: bkO id rv b :: c :: M) h') ?_ ?_)
      | refine W_ops ?_
      | refine W_marked ?_
    )
    | refine midK_n ?_)
  · exact ⟨_, ⟨_, _, rfl, hs⟩, EnvB.of rfl⟩
  clear hs
  rintro _ us _ h2 ⟨o3, o4, rfl, hs⟩ he
  refine W_spell he rfl ?_
  clear he
  repeat' (first
    | (refine K_ops ?_; first
      | refine W_nil ?_
      | (refine W_allocS hs ?_; clear hs; intro al _ hs; try simp only [cell_back, attr_back, List.set_cons_zero, List.set_cons_succ, List.eraseIdx_cons_succ, List.eraseIdx_zero, List.tail_cons, List.nil_append, List.cons_append] at hs; refine W_norm rfl ?_)
    )
    | (refine K_code ?_; first
      | (refine W_midB (a := .ops m28_r1) [5] [0, 1, 2, 3, 4, 5, 6, 7, 8, 9, 10, 11, 12, 13, 14, 15, 16, 17, 18, 19, 20, 21, 22, 23, 24, 25, 26, 27, 28, 29] (fun sl h' => ∃ (ob : Nat), sl = [(5, .sc (.ptr ob 0))] ∧ Sep R ([(ob, .cells 22 .own [.nils])] :: [(o4, .cells 22 .own [.nils])] :: [(o3, .cells 3 .own [.int .i64 m])] :: bkO id rv b :: c :: M) h') ?_ ?_)
      | refine W_ops ?_
    )
    | refine midK_n ?_)
  · exact ⟨_, ⟨_, rfl, hs⟩, EnvB.of rfl⟩
  clear hs
  rintro _ us _ h2 ⟨ob, rfl, hs⟩ he
  refine W_spell he rfl ?_
  clear he
  repeat' (first
    | (refine K_ops ?_; first
      | refine W_fastB rfl ?_
      | refine W_nil ?_
      | (refine W_bin (v := bo false) rfl rfl rfl ?_; refine W_norm rfl ?_)
      | (refine K_call ?_; first
        | (refine W_callsN 12 rfl (w12) rfl ?_; rintro _ hX ⟨ib, rfl, t⟩; replace hs := hs.call t; try simp only [cell_back, attr_back, List.set_cons_zero, List.set_cons_succ, List.eraseIdx_cons_succ, List.eraseIdx_zero, List.tail_cons, List.nil_append, List.cons_append] at hs; refine W_norm rfl ?_)
      )
      | (refine K_load ?_; first
        | (refine W_loadC hs 2 rfl rfl rfl ?_; refine W_norm rfl ?_)
      )
    )
    | (refine K_code ?_; first
      | refine W_seq ?_
      | refine W_ops ?_
      | refine W_cond_f rfl ?_
      | (refine W_cond rfl (fun hc => ?_) (fun hc => ?_) <;> (try rw [hc]) <;> (try simp only [decide_eq_true_eq, decide_eq_false_iff_not, beq_iff_eq, beq_eq_false_iff_ne, bne_iff_ne, bne_eq_false_iff_eq, Bool.not_eq_true', Bool.not_eq_false', Int.not_lt, Int.not_le, ne_eq, reduceCtorEq, not_true_eq_false, not_false_eq_true, Decidable.not_not] at hc) <;> (try (exfalso; omega)) <;> (try refine W_norm rfl ?_))
      | refine W_skip ?_
      | refine W_block ?_
    )
    | refine seqK_n ?_)
  replace hs := (((hs.drop 1).freeze 0 rfl).front 2 rfl).freeze 0 rfl
  simp only [List.eraseIdx_cons_zero, List.eraseIdx_cons_succ, List.eraseIdx_zero, List.tail_cons] at hs
  obtain ⟨R1, hRe, hib, hfp, hs⟩ : ∃ R1 : Ro, R.le R1 ∧ PtR R1 ib 0 [.ptr id 0] ∧ PtR R1 o3 0 [.int .i64 m] ∧ Sep R1 ([(ob, .cells 22 .own [.nils])] :: [(o4, .cells 22 .own [.nils])] :: bkO id rv b :: c :: M) hX := ⟨_, fun _ _ q => .inl (.inl q), ⟨_, _, _, .inl (.inr (List.mem_singleton.2 rfl)), rfl⟩, ⟨_, _, _, .inr (List.mem_singleton.2 rfl), rfl⟩, hs⟩
  refine W_rangeS hs rfl fun idl d h1 hs1 => ?_
  refine (w28_r (o3 := o3) ⟨rfl, rfl, rfl, trivial⟩ hs1 ha I hib hfp hm).mono ?_
  rintro _ _ h3 ⟨rfl, R2, ov, co, st, hle, hov, hst, hs⟩
  rcases hst with rfl | rfl
  · refine ⟨⟨_, rfl⟩, R2, _, .inl ⟨hs, fun h4 hs => ?_⟩⟩
    refine blockK_n ?_
    refine seqK_n ?_
    repeat' (first
      | (refine K_ops ?_; first
        | refine W_nil ?_
        | (refine K_load ?_; first
          | (refine W_loadC hs 1 rfl rfl rfl ?_; refine W_norm rfl ?_)
        )
        | (refine K_store ?_; first
          | (refine W_storeC hs 3 rfl rfl rfl rfl (by first | decide | assumption) rfl rfl ?_; clear hs; intro _ hs; try simp only [cell_back, attr_back, List.set_cons_zero, List.set_cons_succ, List.eraseIdx_cons_succ, List.eraseIdx_zero, List.tail_cons, List.nil_append, List.cons_append] at hs; refine W_norm rfl ?_)
        )
      )
      | (refine K_code ?_; first
        | refine W_seq ?_
        | refine W_ops ?_
        | refine W_ret ?_
      )
      | refine seqK_n ?_)
    refine markK_r ?_
    replace hs := ((hs.drop 0).drop 0).thin (fun _ _ q => hle _ _ (hRe _ _ q))
    simp only [List.eraseIdx_cons_zero] at hs
    replace hs := hs.shutG (n0 := h.n) hR0 (fun p hp => by
      simp only [List.flatten_cons, List.mem_append] at hp
      rcases hp with hp | hp | hp | hp | hp
      · exact .inr (hov.noDfr p hp)
      · exact .inr (by rcases List.mem_singleton.1 hp with rfl; intro hh; cases hh)
      · exact .inr (by rcases List.mem_singleton.1 hp with rfl; intro hh; cases hh)
      · exact .inr (ha.noDfr p hp)
      · exact .inl (hM0 p hp))
    refine fnK_cell1 hs 1 rfl rfl rfl rfl ?_
    exact ⟨_, rfl, _, _, rfl, hov, hs.drop 1⟩
  · refine ⟨⟨_, rfl⟩, R2, _, .inr ⟨_, hs, fun h4 hs => ?_⟩⟩
    refine blockK_e ?_
    refine seqK_n ?_
    repeat' (first
      | (refine K_ops ?_; first
        | refine W_nil ?_
        | (refine K_load ?_; first
          | (refine W_loadC hs 1 rfl rfl rfl ?_; refine W_norm rfl ?_)
        )
        | (refine K_store ?_; first
          | (refine W_storeC hs 3 rfl rfl rfl rfl (by first | decide | assumption) rfl rfl ?_; clear hs; intro _ hs; try simp only [cell_back, attr_back, List.set_cons_zero, List.set_cons_succ, List.eraseIdx_cons_succ, List.eraseIdx_zero, List.tail_cons, List.nil_append, List.cons_append] at hs; refine W_norm rfl ?_)
        )
      )
      | (refine K_code ?_; first
        | refine W_seq ?_
        | refine W_ops ?_
        | refine W_ret ?_
      )
      | refine seqK_n ?_)
    refine markK_r ?_
    replace hs := ((hs.drop 0).drop 0).thin (fun _ _ q => hle _ _ (hRe _ _ q))
    simp only [List.eraseIdx_cons_zero] at hs
    replace hs := hs.shutG (n0 := h.n) hR0 (fun p hp => by
      simp only [List.flatten_cons, List.mem_append] at hp
      rcases hp with hp | hp | hp | hp | hp
      · exact .inr (hov.noDfr p hp)
      · exact .inr (by rcases List.mem_singleton.1 hp with rfl; intro hh; cases hh)
      · exact .inr (by rcases List.mem_singleton.1 hp with rfl; intro hh; cases hh)
      · exact .inr (ha.noDfr p hp)
      · exact .inl (hM0 p hp))
    refine fnK_cell1 hs 1 rfl rfl rfl rfl ?_
    exact ⟨_, rfl, _, _, rfl, hov, hs.drop 1⟩
end Go.Proofs.Ytjadhoelknmnkaa
/- The law BackLast. -/
set_option linter.unusedSimpArgs false
set_option linter.unusedVariables false
set_option maxHeartbeats 1000000
set_option maxRecDepth 100000
namespace Go.Proofs.Ytjadhoelknmnkaa
open Go Go.Jx

theorem w8g (h : Heap) : Wc DD 8 [] h fun v h' => v = .sc (.bool true) ∧ h' = h := W_known rfl
theorem w9y {n : Int} {h : Heap} (hn : 0 ≤ n ∧ n ≤ 500) : Wc DD 9 [i64 n] h fun w h' => ∃ id, w = .tup [.sc (.ptr id 0), i64 0] ∧ BkI ⟨n, [], 0, [], 0⟩ ∧ Sep (Now h) [bkO id .nils ⟨n, [], 0, [], 0⟩] h' := by
  refine (w9 (n := n) ⟨by omega, by omega⟩).mono ?_
  rintro _ _ _ ⟨w, rfl, ⟨h1, _⟩ | ⟨_, id, rfl, h2, h3⟩⟩
  · exact absurd hn h1
  · exact ⟨_, rfl, id, rfl, h2, h3⟩
/-- So many have been put. -/
def putsL (m : Nat) (A : List Int) (k : Nat) : List Int := (A.take k).drop (k - m)
theorem putsL_length {m k : Nat} {A : List Int} (hk : k ≤ A.length) : (putsL m A k).length = min k m := by
  unfold putsL; rw [List.length_drop, List.length_take]; omega
theorem putsL_step {m k : Nat} {A : List Int} (hk : k < A.length) : putL m (putsL m A k) (A.getD k 0) = putsL m A (k + 1) := by
  have hl := putsL_length (m := m) (A := A) (k := k) (by omega)
  have et : A.take (k + 1) = A.take k ++ [A.getD k 0] := by rw [List.take_add_one, getD_get? (d := (0 : Int)) hk]; rfl
  have hlt : (A.take k).length = k := by rw [List.length_take]; omega
  unfold putL
  by_cases hm : (m : Int) ≤ ((putsL m A k).length : Int)
  · rw [if_pos hm]
    unfold putsL
    rw [et, show k + 1 - m = (k - m) + 1 by omega, ← List.drop_drop, List.drop_append (l₁ := A.take k), show k - m - (A.take k).length = 0 by omega, List.drop_zero]
  · rw [if_neg hm]
    unfold putsL
    rw [et, show k + 1 - m = 0 by omega, show k - m = 0 by omega, List.drop_zero, List.drop_zero]
theorem putsL_zero (m : Nat) (A : List Int) : putsL m A 0 = [] := by unfold putsL; simp
theorem w10p {R : Ro} {M : List Hp} {h : Heap} {id m k : Nat} {rv : SV} {b : Bk} {c : Hp} {A : List Int} {g0 : Int} (hs : Sep R (bkO id rv b :: c :: M) h) (ha : AccS intE 3 rv b.r c) (I : BkI b) (hm : b.max = m) (hL : b.L = putsL m A k) (hg : b.g = g0 + ((k - m : Nat) : Int)) (hk : k < A.length) (hA : A.length ≤ 600) (hg0 : g0 ≤ 600) :
    Wc DD 10 [.sc (.ptr id 0), i64 (A.getD k 0)] h fun w h' => w = bo (decide (m ≤ k)) ∧ ∃ rv' b' c', b'.max = (m : Int) ∧ b'.L = putsL m A (k + 1) ∧ b'.g = g0 + ((k + 1 - m : Nat) : Int) ∧ BkI b' ∧ AccS intE 3 rv' b'.r c' ∧ Sep R (bkO id rv' b' :: c' :: M) h' := by
  have hl := putsL_length (m := m) (A := A) (k := k) (by omega)
  refine (w10 (x := A.getD k 0) hs ha I (by omega)).mono ?_
  rintro _ _ _ ⟨w, rfl, rfl, rv', b', c', q1, q2, q3, q4, q5, q6⟩
  rw [hm, hL] at q2
  rw [hm, hL, hg] at q3
  refine ⟨_, rfl, ?_, rv', b', c', q1.trans hm, q2.trans (putsL_step hk), ?_, q4, q5, q6⟩
  · rw [hm, hL, hl]
    refine congrArg (fun b => AV.sc (SV.bool b)) (decide_eq_decide.2 ?_)
    omega
  · rw [q3]; unfold putG
    rw [hl]
    split <;> omega
theorem w7 {v1 v2 : SV} {A B : List Int} {m : Int} {h : Heap} (hA : SlR intE (Now h) v1 A) (hB : SlR intE (Now h) v2 B) (hlA : A.length ≤ 2 ^ 63 - 1) (hlB : B.length ≤ 2 ^ 63 - 1) (hm : -9223372036854775808 ≤ m ∧ m ≤ 9223372036854775807) :
    Wc DD 7 [i64 m, .sc v1, .sc v2] h fun w h' => w = bo true := by
  have hs := Sep.entry h
  have hAn := hA.ln
  have hBn := hB.ln
  refine W_enter d7 ?_
  show W _ (.code m7_code [i64 m, .sc v1, .sc v2, undefA, undefA, undefA, undefA, undefA, undefA, undefA, undefA, undefA, undefA, undefA, undefA, undefA, undefA, undefA, undefA, undefA, undefA, undefA, undefA, undefA, undefA, undefA, undefA, undefA, undefA, undefA, undefA, undefA, undefA, undefA, undefA, undefA, undefA, undefA, undefA, undefA, undefA, undefA, undefA, undefA, undefA, undefA, undefA, undefA, undefA, undefA, undefA, undefA, undefA, undefA, undefA, undefA, undefA, undefA, undefA, undefA, undefA, undefA, undefA, undefA, undefA, undefA, undefA, undefA, undefA, undefA, undefA, undefA, undefA, undefA, undefA, undefA, undefA, undefA, undefA, undefA, undefA, undefA, undefA, undefA, undefA, undefA, undefA, undefA, undefA, undefA, undefA, undefA, undefA, undefA, undefA, undefA, undefA, undefA, undefA, undefA, undefA, undefA, undefA, undefA, undefA, undefA, undefA, undefA, undefA, undefA, undefA, undefA] _) _
  unfold m7_code
  by_cases hg : (0 ≤ m ∧ m ≤ 500) ∧ A.length ≤ 600 ∧ B.length ≤ 600
  · obtain ⟨hmr, hA6, hB6⟩ := hg
    obtain ⟨N, rfl⟩ : ∃ N : Nat, m = (N : Int) := ⟨m.toNat, by omega⟩
    repeat' (first
      | (refine K_ops ?_; first
        | refine W_fastB rfl ?_
        | refine W_nil ?_
        | (refine K_guard ?_; first
          | refine W_guard_on rfl ?_
          | (refine W_guardF rfl (fun hc => ?_) (fun hc => ?_) <;> (try rw [hc]) <;> (try simp only [decide_eq_true_eq, decide_eq_false_iff_not, beq_iff_eq, beq_eq_false_iff_ne, bne_iff_ne, bne_eq_false_iff_eq, Bool.not_eq_true', Bool.not_eq_false', Int.not_lt, Int.not_le, ne_eq, reduceCtorEq, not_true_eq_false, not_false_eq_true, Decidable.not_not] at hc) <;> (try (exfalso; omega)) <;> (try refine W_norm rfl ?_))
        )
        | (refine K_call ?_; first
          | (refine W_callsN 9 rfl (w9y hmr) rfl ?_; rintro _ hX ⟨id, rfl, I0, t⟩; replace hs := hs.call t; try simp only [cell_back, attr_back, List.set_cons_zero, List.set_cons_succ, List.eraseIdx_cons_succ, List.eraseIdx_zero, List.tail_cons, List.nil_append, List.cons_append] at hs; refine W_norm rfl ?_)
        )
        | (refine W_lenL rfl (by first | assumption | exact SlR.ln (by assumption) | exact AccS.ln (by assumption) | exact OwnS.ln (by assumption) | exact VwO.ln (by assumption) | exact OwnP.ln (by assumption) | exact Len.sl) ?_; refine W_norm rfl ?_)
        | (refine K_bin ?_; first
          | (refine W_nil_ptr_f rfl rfl rfl ?_; refine W_norm rfl ?_)
        )
        | (refine K_pick ?_; first
          | refine W_pick_f rfl rfl (W_norm rfl ?_)
        )
      )
      | (refine K_code ?_; first
        | refine W_seq ?_
        | refine W_ops ?_
        | refine W_cond_f rfl ?_
        | (refine W_cond rfl (fun hc => ?_) (fun hc => ?_) <;> (try rw [hc]) <;> (try simp only [decide_eq_true_eq, decide_eq_false_iff_not, beq_iff_eq, beq_eq_false_iff_ne, bne_iff_ne, bne_eq_false_iff_eq, Bool.not_eq_true', Bool.not_eq_false', Int.not_lt, Int.not_le, ne_eq, reduceCtorEq, not_true_eq_false, not_false_eq_true, Decidable.not_not] at hc) <;> (try (exfalso; omega)) <;> (try refine W_norm rfl ?_))
        | refine W_skip ?_
        | refine W_block ?_
      )
      | refine seqK_n ?_)
    refine W_loopB [9, 41, 42, 43, 44, 45, 46, 47, 48, 49, 50, 51, 52] [0, 1, 2, 3, 4, 5, 6, 7, 8, 9, 10, 11, 12, 13, 14, 15, 16, 17, 18, 19, 20, 21, 22, 23, 24, 25, 26, 27, 28, 29, 30, 31, 32, 33, 34, 35, 36, 37, 38, 39, 40, 41, 42, 43, 44, 45, 46, 47, 48, 49, 50, 51, 52, 53, 54, 55, 56, 57, 58, 59, 60, 61, 62, 63, 64, 65, 66, 67, 68, 69, 70, 71, 72, 73, 74, 75, 76, 77, 78, 79, 80, 81, 82, 83, 84, 85, 86, 87, 88, 89, 90, 91, 92, 93, 94, 95, 96, 97, 98, 99, 100, 101, 102, 103, 104, 105, 106, 107, 108, 109, 110, 111] (fun n' sl h' => ∃ (k : Nat) (rv : SV) (b : Bk) (c : Hp), sl = [(9, .sc (.int .i64 (k : Int)))] ∧ n' = A.length - k ∧ k ≤ A.length ∧ b.max = (N : Int) ∧ b.L = putsL N A k ∧ b.g = 0 + ((k - N : Nat) : Int) ∧ BkI b ∧ AccS intE 3 rv b.r c ∧ Sep (Now h) [bkO id rv b, c] h') ?_ ?_
    · refine ⟨_, _, ⟨0, .nils, ⟨N, [], 0, [], 0⟩, [], rfl, rfl, Nat.zero_le _, rfl, (putsL_zero _ _).symm, ?_, I0, AccS.nil _, hs.reord (fun a => by simp only [List.flatten_cons, List.flatten_nil, List.count_append, List.count_nil, hpOf_append, hpOf_cons, hpOf_nil, List.append_nil, List.eraseIdx_cons_succ, List.eraseIdx_zero, List.tail_cons] <;> omega)⟩, EnvB.of rfl⟩
      simp
    clear hs t I0
    rintro _ _ us _ h2 ⟨k, rv, b, c, rfl, rfl, hk, e1, e2, e3, I, ha, hs⟩ he
    refine W_spell he rfl ?_
    clear he
    unfold m7_l7
    by_cases hlt : k < A.length
    · repeat' (first
        | (refine K_ops ?_; first
          | refine W_fastB rfl ?_
          | refine W_nil ?_
          | (refine K_call ?_; first
            | (refine W_callsN 10 rfl (w10p hs ha I e1 e2 e3 hlt hA6 (by omega)) rfl ?_; rintro _ hX ⟨rfl, rv', b', c', q1, q2, q3, q4, q5, hs⟩; refine W_norm rfl ?_)
          )
          | (refine W_lenL rfl (by first | assumption | exact SlR.ln (by assumption) | exact AccS.ln (by assumption) | exact OwnS.ln (by assumption) | exact VwO.ln (by assumption) | exact OwnP.ln (by assumption) | exact Len.sl) ?_; refine W_norm rfl ?_)
          | (refine K_bin ?_; first
            | (refine W_add rfl rfl (IntWalk.i64_in _ (by first | omega | (simp only [List.length_set, List.length_append, List.length_take, List.length_drop, List.length_replicate, List.length_cons, List.length_nil, decs_length, List.length_map]; omega))) ?_; refine W_norm rfl ?_)
          )
          | (refine K_index ?_; first
            | (refine W_indexR rfl rfl (by assumption) rfl ⟨(by first | omega | (simp only [List.length_set, List.length_append, List.length_take, List.length_drop, List.length_replicate, List.length_cons, List.length_nil, decs_length, List.length_map]; omega)), (by first | omega | (simp only [List.length_set, List.length_append, List.length_take, List.length_drop, List.length_replicate, List.length_cons, List.length_nil, decs_length, List.length_map]; omega))⟩ ?_; intro _ _ _; refine W_norm rfl ?_)
          )
          | (refine K_load ?_; first
            | (refine W_loadR hs rfl (by assumption) rfl ?_; refine W_norm rfl ?_)
          )
        )
        | (refine K_code ?_; first
          | refine W_seq ?_
          | refine W_ops ?_
          | (refine W_cond rfl (fun hc => ?_) (fun hc => ?_) <;> (try rw [hc]) <;> (try simp only [decide_eq_true_eq, decide_eq_false_iff_not, beq_iff_eq, beq_eq_false_iff_ne, bne_iff_ne, bne_eq_false_iff_eq, Bool.not_eq_true', Bool.not_eq_false', Int.not_lt, Int.not_le, ne_eq, reduceCtorEq, not_true_eq_false, not_false_eq_true, Decidable.not_not] at hc) <;> (try (exfalso; omega)) <;> (try refine W_norm rfl ?_))
          | refine W_skip ?_
          | refine W_block ?_
        )
        | refine seqK_n ?_
        | refine blockK_n ?_
        | refine invK_n ?_)
      refine ⟨_, ?_, _, ⟨k + 1, rv', b', c', rfl, rfl, ?_, q1, q2, q3, q4, q5, hs⟩, EnvB.of rfl⟩ <;> omega
    · obtain rfl : k = A.length := by omega
      repeat' (first
        | (refine K_ops ?_; first
          | refine W_fastB rfl ?_
          | refine W_nil ?_
          | (refine K_call ?_; first
            | (refine W_callsN 29 rfl (w29 hs ha I) rfl ?_; rintro _ hX ⟨rfl, b1, c1, f1, f2, f3, I1, ha1, hs⟩; refine W_norm rfl ?_)
            | (refine W_callsN 23 rfl (w23 hs) rfl ?_; rintro _ hX ⟨rfl, rfl⟩; refine W_norm rfl ?_)
          )
          | (refine W_lenL rfl (by first | assumption | exact SlR.ln (by assumption) | exact AccS.ln (by assumption) | exact OwnS.ln (by assumption) | exact VwO.ln (by assumption) | exact OwnP.ln (by assumption) | exact Len.sl) ?_; refine W_norm rfl ?_)
        )
        | (refine K_code ?_; first
          | refine W_seq ?_
          | refine W_ops ?_
          | (refine W_cond rfl (fun hc => ?_) (fun hc => ?_) <;> (try rw [hc]) <;> (try simp only [decide_eq_true_eq, decide_eq_false_iff_not, beq_iff_eq, beq_eq_false_iff_ne, bne_iff_ne, bne_eq_false_iff_eq, Bool.not_eq_true', Bool.not_eq_false', Int.not_lt, Int.not_le, ne_eq, reduceCtorEq, not_true_eq_false, not_false_eq_true, Decidable.not_not] at hc) <;> (try (exfalso; omega)) <;> (try refine W_norm rfl ?_))
          | refine W_exit ?_
          | refine W_block ?_
        )
        | refine seqK_n ?_
        | refine seqK_x ?_
        | refine blockK_e ?_
        | refine invK_x ?_)
      rw [f3, e3]
      rw [e1] at f1
      rw [e3] at f3
      obtain ⟨G, hG⟩ : ∃ G : Int, G = 0 + ((A.length - N : Nat) : Int) := ⟨_, rfl⟩
      rw [← hG] at f3 ⊢
      clear ha I e1 e2 e3
      refine W_loopB [6, 11, 57, 58, 59, 60, 61, 62, 63, 64, 65, 66, 67, 68, 69, 70, 71, 72] [0, 1, 2, 3, 4, 5, 6, 7, 8, 9, 10, 11, 12, 13, 14, 15, 16, 17, 18, 19, 20, 21, 22, 23, 24, 25, 26, 27, 28, 29, 30, 31, 32, 33, 34, 35, 36, 37, 38, 39, 40, 41, 42, 43, 44, 45, 46, 47, 48, 49, 50, 51, 52, 53, 54, 55, 56, 57, 58, 59, 60, 61, 62, 63, 64, 65, 66, 67, 68, 69, 70, 71, 72, 73, 74, 75, 76, 77, 78, 79, 80, 81, 82, 83, 84, 85, 86, 87, 88, 89, 90, 91, 92, 93, 94, 95, 96, 97, 98, 99, 100, 101, 102, 103, 104, 105, 106, 107, 108, 109, 110, 111] (fun n' sl h' => ∃ (k : Nat) (rv : SV) (b : Bk) (c : Hp), sl = [(11, .sc (.int .i64 (k : Int)))] ∧ n' = B.length - k ∧ k ≤ B.length ∧ b.max = (N : Int) ∧ b.L = putsL N B k ∧ b.g = G + ((k - N : Nat) : Int) ∧ BkI b ∧ AccS intE 3 rv b.r c ∧ Sep (Now h) [bkO id rv b, c] h') ?_ ?_
      · refine ⟨_, _, ⟨0, rv, b1, c1, rfl, rfl, Nat.zero_le _, f1, ?_, ?_, I1, ha1, hs⟩, EnvB.of rfl⟩
        · rw [f2, putsL_zero]
        · rw [f3]; simp
      clear hs ha1 I1 f1 f2 f3
      rintro _ _ us _ h2 ⟨k, rv, b, c, rfl, rfl, hk, e1, e2, e3, I, ha, hs⟩ he
      refine W_spell he rfl ?_
      clear he
      unfold m7_l14
      by_cases hlt : k < B.length
      · repeat' (first
          | (refine K_ops ?_; first
            | refine W_fastB rfl ?_
            | refine W_nil ?_
            | (refine K_call ?_; first
              | (refine W_callsN 10 rfl (w10p hs ha I e1 e2 e3 hlt hB6 (by omega)) rfl ?_; rintro _ hX ⟨rfl, rv', b', c', q1, q2, q3, q4, q5, hs⟩; refine W_norm rfl ?_)
            )
            | (refine W_lenL rfl (by first | assumption | exact SlR.ln (by assumption) | exact AccS.ln (by assumption) | exact OwnS.ln (by assumption) | exact VwO.ln (by assumption) | exact OwnP.ln (by assumption) | exact Len.sl) ?_; refine W_norm rfl ?_)
            | (refine K_bin ?_; first
              | (refine W_add rfl rfl (IntWalk.i64_in _ (by first | omega | (simp only [List.length_set, List.length_append, List.length_take, List.length_drop, List.length_replicate, List.length_cons, List.length_nil, decs_length, List.length_map]; omega))) ?_; refine W_norm rfl ?_)
            )
            | (refine K_index ?_; first
              | (refine W_indexR rfl rfl (by assumption) rfl ⟨(by first | omega | (simp only [List.length_set, List.length_append, List.length_take, List.length_drop, List.length_replicate, List.length_cons, List.length_nil, decs_length, List.length_map]; omega)), (by first | omega | (simp only [List.length_set, List.length_append, List.length_take, List.length_drop, List.length_replicate, List.length_cons, List.length_nil, decs_length, List.length_map]; omega))⟩ ?_; intro _ _ _; refine W_norm rfl ?_)
            )
            | (refine K_load ?_; first
              | (refine W_loadR hs rfl (by assumption) rfl ?_; refine W_norm rfl ?_)
            )
          )
          | (refine K_code ?_; first
            | refine W_seq ?_
            | refine W_ops ?_
            | (refine W_cond rfl (fun hc => ?_) (fun hc => ?_) <;> (try rw [hc]) <;> (try simp only [decide_eq_true_eq, decide_eq_false_iff_not, beq_iff_eq, beq_eq_false_iff_ne, bne_iff_ne, bne_eq_false_iff_eq, Bool.not_eq_true', Bool.not_eq_false', Int.not_lt, Int.not_le, ne_eq, reduceCtorEq, not_true_eq_false, not_false_eq_true, Decidable.not_not] at hc) <;> (try (exfalso; omega)) <;> (try refine W_norm rfl ?_))
            | refine W_skip ?_
            | refine W_ret ?_
            | refine W_block ?_
          )
          | refine seqK_n ?_
          | refine seqK_r ?_
          | refine blockK_r ?_
          | refine blockK_n ?_
          | refine invK_r ?_
          | refine invK_n ?_
          | (refine fnK_r rfl ?_; try dsimp only [gd_z, gd_s]))
        · exact absurd (decide_eq_decide.2 (by omega)) hc
        · refine ⟨_, ?_, _, ⟨k + 1, rv', b', c', rfl, rfl, ?_, q1, q2, q3, q4, q5, hs⟩, EnvB.of rfl⟩ <;> omega
      · obtain rfl : k = B.length := by omega
        have hLl := I.ll
        have hrl := I.rl
        have hE0 : b.L = B.drop (max ((B.length : Int) - (N : Int)) 0).toNat := by
          rw [e2]; unfold putsL
          rw [List.take_length]; congr 1; omega
        have hE1 : lastL b.L 1000 = B.drop (max ((B.length : Int) - (N : Int)) 0).toNat := by
          rw [← hE0]; unfold lastL
          rw [show ((b.L.length : Int) - max 1000 0).toNat = 0 by omega, List.drop_zero]
        have hE2 : b.L.take (1000 : Int).toNat = B.drop (max ((B.length : Int) - (N : Int)) 0).toNat := by
          rw [← hE0]; exact List.take_of_length_le (by show b.L.length ≤ 1000; omega)
        have hll : (lastL b.L 1000).length ≤ 2 ^ 62 := by rw [hE1, List.length_drop]; omega
        have hll2 : (b.L.take (1000 : Int).toNat).length ≤ 2 ^ 62 := by rw [hE2, List.length_drop]; omega
        have hdl : (B.drop (max ((B.length : Int) - (N : Int)) 0).toNat).length ≤ 2 ^ 62 := by rw [List.length_drop]; omega
        repeat' (first
          | (refine K_ops ?_; first
            | refine W_fastB rfl ?_
            | refine W_nil ?_
            | (refine K_guard ?_; first
              | refine W_guard_on rfl ?_
              | (refine W_guardT rfl (fun hc => ?_) (fun hc => ?_) <;> (try rw [hc]) <;> (try simp only [decide_eq_true_eq, decide_eq_false_iff_not, beq_iff_eq, beq_eq_false_iff_ne, bne_iff_ne, bne_eq_false_iff_eq, Bool.not_eq_true', Bool.not_eq_false', Int.not_lt, Int.not_le, ne_eq, reduceCtorEq, not_true_eq_false, not_false_eq_true, Decidable.not_not] at hc) <;> (try (exfalso; omega)) <;> (try refine W_norm rfl ?_))
            )
            | (refine K_call ?_; first
              | (refine W_callsN 23 rfl (w23 hs) rfl ?_; rintro _ hX ⟨rfl, rfl⟩; refine W_norm rfl ?_)
              | (refine W_callsN 11 rfl (w11 (n := 1000) hs ha I ⟨by decide, by decide⟩) rfl ?_; rintro _ hX ⟨u, cu, rfl, hau, hs⟩; replace hs : Sep (Now h) [bkO id rv b, c, cu] hX := hs.reord (fun a => by simp only [List.flatten_cons, List.flatten_nil, List.count_append, List.count_nil, hpOf_append, hpOf_cons, hpOf_nil, List.append_nil, List.eraseIdx_cons_succ, List.eraseIdx_zero, List.tail_cons] <;> omega); refine W_norm rfl ?_)
              | (refine W_callsN 14 rfl (w14 (A := lastL b.L 1000) (B := B.drop (max ((B.length : Int) - (N : Int)) 0).toNat) (AccS.now hau hs (by simp)) (SlR.now hs (by assumption)) hll hdl) rfl ?_; rintro _ hX ⟨rfl, rfl⟩; rw [decide_eq_true hE1]; refine W_norm rfl ?_)
              | (refine W_callsN 28 rfl (w28 (m := 1000) hs ha I ⟨by decide, by decide⟩) rfl ?_; rintro _ hX ⟨u2, cu2, rfl, hau2, hs⟩; refine W_norm rfl ?_)
              | (refine W_callsN 14 rfl (w14 (A := b.L.take (1000 : Int).toNat) (B := B.drop (max ((B.length : Int) - (N : Int)) 0).toNat) (AccS.now hau2 hs (by simp)) (SlR.now hs (by assumption)) hll2 hdl) rfl ?_; rintro _ hX ⟨rfl, rfl⟩; rw [decide_eq_true hE2]; refine W_norm rfl ?_)
              | (refine W_callsN 8 rfl (w8g _) rfl ?_; rintro _ hX ⟨rfl, rfl⟩; refine W_norm rfl ?_)
            )
            | (refine W_lenL rfl (by first | assumption | exact SlR.ln (by assumption) | exact AccS.ln (by assumption) | exact OwnS.ln (by assumption) | exact VwO.ln (by assumption) | exact OwnP.ln (by assumption) | exact Len.sl) ?_; refine W_norm rfl ?_)
            | (refine K_bin ?_; first
              | (refine W_add rfl rfl (IntWalk.i64_in _ (by first | omega | (simp only [List.length_set, List.length_append, List.length_take, List.length_drop, List.length_replicate, List.length_cons, List.length_nil, decs_length, List.length_map]; omega))) ?_; refine W_norm rfl ?_)
              | (refine W_sub rfl rfl (IntWalk.i64_in _ (by first | omega | (simp only [List.length_set, List.length_append, List.length_take, List.length_drop, List.length_replicate, List.length_cons, List.length_nil, decs_length, List.length_map]; omega))) ?_; refine W_norm rfl ?_)
            )
            | (refine K_pick ?_; first
              | refine W_pick_t rfl rfl (W_norm rfl ?_)
            )
            | (refine K_slice ?_; first
              | (refine W_sliceRFrom rfl rfl (by assumption) rfl ⟨(by first | omega | (simp only [List.length_set, List.length_append, List.length_take, List.length_drop, List.length_replicate, List.length_cons, List.length_nil, decs_length, List.length_map]; omega)), (by first | omega | (simp only [List.length_set, List.length_append, List.length_take, List.length_drop, List.length_replicate, List.length_cons, List.length_nil, decs_length, List.length_map]; omega))⟩ ?_; intro _ _; refine W_norm rfl ?_)
            )
            | (refine W_max2 rfl rfl ?_; refine W_norm rfl ?_)
          )
          | (refine K_code ?_; first
            | refine W_seq ?_
            | refine W_ops ?_
            | (refine W_cond rfl (fun hc => ?_) (fun hc => ?_) <;> (try rw [hc]) <;> (try simp only [decide_eq_true_eq, decide_eq_false_iff_not, beq_iff_eq, beq_eq_false_iff_ne, bne_iff_ne, bne_eq_false_iff_eq, Bool.not_eq_true', Bool.not_eq_false', Int.not_lt, Int.not_le, ne_eq, reduceCtorEq, not_true_eq_false, not_false_eq_true, Decidable.not_not] at hc) <;> (try (exfalso; omega)) <;> (try refine W_norm rfl ?_))
            | refine W_ret ?_
            | refine W_exit ?_
            | refine W_draw rfl ?_
          )
          | refine seqK_n ?_
          | refine seqK_x ?_
          | refine blockK_e ?_
          | refine invK_x ?_
          | (refine fnK_r rfl ?_; try dsimp only [gd_z, gd_s]))
        all_goals first | exact ⟨_, rfl, rfl⟩ | (exfalso; omega)
  · repeat' (first
      | (refine K_ops ?_; first
        | refine W_fastB rfl ?_
        | refine W_nil ?_
        | (refine K_guard ?_; first
          | refine W_guard_on rfl ?_
          | refine W_guard_off rfl rfl (W_norm rfl ?_)
          | (refine W_guardF rfl (fun hc => ?_) (fun hc => ?_) <;> (try rw [hc]) <;> (try simp only [decide_eq_true_eq, decide_eq_false_iff_not, beq_iff_eq, beq_eq_false_iff_ne, bne_iff_ne, bne_eq_false_iff_eq, Bool.not_eq_true', Bool.not_eq_false', Int.not_lt, Int.not_le, ne_eq, reduceCtorEq, not_true_eq_false, not_false_eq_true, Decidable.not_not] at hc) <;> (try (exfalso; omega)) <;> (try refine W_norm rfl ?_))
        )
        | (refine K_call ?_; first
          | (refine W_callsN 8 rfl (w8g _) rfl ?_; rintro _ hX ⟨rfl, rfl⟩; refine W_norm rfl ?_)
        )
        | (refine W_lenL rfl (by first | assumption | exact SlR.ln (by assumption) | exact AccS.ln (by assumption) | exact OwnS.ln (by assumption) | exact VwO.ln (by assumption) | exact OwnP.ln (by assumption) | exact Len.sl) ?_; refine W_norm rfl ?_)
        | (refine K_pick ?_; first
          | refine W_pick_t rfl rfl (W_norm rfl ?_)
          | refine W_pick_f rfl rfl (W_norm rfl ?_)
        )
      )
      | (refine K_code ?_; first
        | refine W_seq ?_
        | refine W_ops ?_
        | refine W_cond_t rfl ?_
        | (refine W_cond rfl (fun hc => ?_) (fun hc => ?_) <;> (try rw [hc]) <;> (try simp only [decide_eq_true_eq, decide_eq_false_iff_not, beq_iff_eq, beq_eq_false_iff_ne, bne_iff_ne, bne_eq_false_iff_eq, Bool.not_eq_true', Bool.not_eq_false', Int.not_lt, Int.not_le, ne_eq, reduceCtorEq, not_true_eq_false, not_false_eq_true, Decidable.not_not] at hc) <;> (try (exfalso; omega)) <;> (try refine W_norm rfl ?_))
        | refine W_ret ?_
      )
      | refine seqK_n ?_
      | refine seqK_r ?_
      | (refine fnK_r rfl ?_; try dsimp only [gd_z, gd_s]))
    all_goals exact ⟨_, rfl, rfl⟩
theorem openIntsL {H : Heap} {v : SV} (o : OpenS H (.slice 3 1 [.int .i64]) v) : ∃ A : List Int, SlR intE (Now H) v A ∧ A.length ≤ 2 ^ 63 - 1 ∧ ∀ a ∈ A, -9223372036854775808 ≤ a ∧ a ≤ 9223372036854775807 := by
  obtain ⟨L, h1, h2, h3⟩ := o.sl (enc := intE.enc) (R := fun a => -9223372036854775808 ≤ a ∧ a ≤ 9223372036854775807) intE.len (fun l o => by
    simp only [OpenL, OpenS] at o
    obtain ⟨_, _, rfl, ⟨d, rfl, hd⟩, rfl⟩ := o
    exact ⟨d, rfl, hd⟩)
  exact ⟨L, h1, h3, h2⟩
theorem walk_backLast (H : Heap) (avs : List AV) (hwf : H.l.length = H.n) (hs : Sub (HL Try.prog.globals.size jxLs) H) (ho : OpenA H [(false, [.int .i64]), (false, [.slice 3 1 [.int .i64]]), (false, [.slice 3 1 [.int .i64]])] avs) : W DD (.call 7 avs H) (fun _ vs _ => vs = [.sc (.bool true)]) := by
  simp only [OpenA] at ho
  obtain ⟨_, _, _, hk, rfl, o1, _, _, _, hk2, rfl, o2, _, _, _, hk3, rfl, o3, rfl⟩ := ho
  cases hk; cases hk2; cases hk3
  simp only [OpenS] at o1
  obtain ⟨n, rfl, e1⟩ := o1
  obtain ⟨A, hA, h1, _⟩ := openIntsL o2
  obtain ⟨B, hB, h2, _⟩ := openIntsL o3
  exact (w7 hA hB h1 h2 e1).mono fun _ _ _ ⟨v, hv, h3⟩ => by rw [hv, h3]
end Go.Proofs.Ytjadhoelknmnkaa
/- The document's back. -/
set_option linter.unusedSimpArgs false
set_option linter.unusedVariables false
set_option maxHeartbeats 1000000
set_option maxRecDepth 100000
namespace Go.Proofs.Ytjadhoelknmnkaa
open Go Go.Jx

abbrev dcO (id : Nat) (lv : SV) (m g : Int) : Hp := [(id, .cells 49 .own [.int .i64 m, lv, .int .i64 g])]
theorem w25 {R : Ro} {M : List Hp} {h : Heap} {id : Nat} {lv : SV} {m g : Int} {L : List Int} (hs : Sep R (dcO id lv m g :: M) h) (hl : SlR intE R lv L) (hL : L.length ≤ 1000) :
    Wc DD 25 [.sc (.ptr id 0)] h fun w h' => w = .tup [i64 (L.getLastD 0), bo (decide (L ≠ []))] ∧ ∃ lv', SlR intE R lv' L.dropLast ∧ Sep R (dcO id lv' m g :: M) h' := by
  have hln := hl.ln
  by_cases hL0 : L = []
  · have hl0 : L.length = 0 := by rw [hL0]; rfl
    refine W_enter d25 ?_
    show W _ (.code m25_code [.sc (.ptr id 0), undefA, undefA, undefA, undefA, undefA, undefA, undefA, undefA, undefA, undefA, undefA, undefA, undefA, undefA, undefA, undefA, undefA, undefA, undefA, undefA, undefA, undefA, undefA, undefA, undefA, undefA, undefA, undefA, undefA, undefA, undefA] _) _
    unfold m25_code
    repeat' (first
      | (refine K_ops ?_; first
        | refine W_fastB rfl ?_
        | refine W_nil ?_
        | (refine W_lenL rfl (by first | assumption | exact SlR.ln (by assumption) | exact AccS.ln (by assumption) | exact OwnS.ln (by assumption) | exact VwO.ln (by assumption) | exact OwnP.ln (by assumption) | exact Len.sl) ?_; refine W_norm rfl ?_)
        | (refine K_load ?_; first
          | (refine W_loadC hs 0 rfl rfl rfl ?_; refine W_norm rfl ?_)
        )
      )
      | (refine K_code ?_; first
        | refine W_seq ?_
        | refine W_ops ?_
        | (refine W_cond rfl (fun hc => ?_) (fun hc => ?_) <;> (try rw [hc]) <;> (try simp only [decide_eq_true_eq, decide_eq_false_iff_not, beq_iff_eq, beq_eq_false_iff_ne, bne_iff_ne, bne_eq_false_iff_eq, Bool.not_eq_true', Bool.not_eq_false', Int.not_lt, Int.not_le, ne_eq, reduceCtorEq, not_true_eq_false, not_false_eq_true, Decidable.not_not] at hc) <;> (try (exfalso; omega)) <;> (try refine W_norm rfl ?_))
        | refine W_ret ?_
      )
      | refine seqK_n ?_
      | refine seqK_r ?_
      | (refine fnK_r rfl ?_; try dsimp only [gd_z, gd_s]))
    refine ⟨_, rfl, by rw [hL0]; rfl, lv, by rw [hL0] at hl ⊢; exact hl, hs⟩
  · have hl0 := List.length_pos_iff.2 hL0
    refine W_enter d25 ?_
    show W _ (.code m25_code [.sc (.ptr id 0), undefA, undefA, undefA, undefA, undefA, undefA, undefA, undefA, undefA, undefA, undefA, undefA, undefA, undefA, undefA, undefA, undefA, undefA, undefA, undefA, undefA, undefA, undefA, undefA, undefA, undefA, undefA, undefA, undefA, undefA, undefA] _) _
    unfold m25_code
    repeat' (first
      | (refine K_ops ?_; first
        | refine W_fastB rfl ?_
        | refine W_nil ?_
        | (refine W_lenL rfl (by first | assumption | exact SlR.ln (by assumption) | exact AccS.ln (by assumption) | exact OwnS.ln (by assumption) | exact VwO.ln (by assumption) | exact OwnP.ln (by assumption) | exact Len.sl) ?_; refine W_norm rfl ?_)
        | (refine K_bin ?_; first
          | (refine W_sub rfl rfl (IntWalk.i64_in _ (by first | omega | (simp only [List.length_set, List.length_append, List.length_take, List.length_drop, List.length_replicate, List.length_cons, List.length_nil, decs_length, List.length_map]; omega))) ?_; refine W_norm rfl ?_)
        )
        | (refine K_index ?_; first
          | (refine W_indexR rfl rfl (by assumption) rfl ⟨(by first | omega | (simp only [List.length_set, List.length_append, List.length_take, List.length_drop, List.length_replicate, List.length_cons, List.length_nil, decs_length, List.length_map]; omega)), (by first | omega | (simp only [List.length_set, List.length_append, List.length_take, List.length_drop, List.length_replicate, List.length_cons, List.length_nil, decs_length, List.length_map]; omega))⟩ ?_; intro _ _ _; refine W_norm rfl ?_)
        )
        | (refine K_load ?_; first
          | (refine W_loadR hs rfl (by assumption) rfl ?_; refine W_norm rfl ?_)
          | (refine W_loadC hs 0 rfl rfl rfl ?_; refine W_norm rfl ?_)
        )
        | (refine K_store ?_; first
          | (refine W_storeC hs 0 rfl rfl rfl rfl (by first | decide | assumption) rfl rfl ?_; clear hs; intro _ hs; try simp only [cell_back, attr_back, List.set_cons_zero, List.set_cons_succ, List.eraseIdx_cons_succ, List.eraseIdx_zero, List.tail_cons, List.nil_append, List.cons_append] at hs; refine W_norm rfl ?_)
        )
        | (refine K_slice ?_; first
          | (refine W_sliceRTo rfl rfl (by assumption) rfl ⟨(by first | omega | (simp only [List.length_set, List.length_append, List.length_take, List.length_drop, List.length_replicate, List.length_cons, List.length_nil, decs_length, List.length_map]; omega)), (by first | omega | (simp only [List.length_set, List.length_append, List.length_take, List.length_drop, List.length_replicate, List.length_cons, List.length_nil, decs_length, List.length_map]; omega))⟩ ?_; intro _ _; refine W_norm rfl ?_)
        )
      )
      | (refine K_code ?_; first
        | refine W_seq ?_
        | refine W_ops ?_
        | (refine W_cond rfl (fun hc => ?_) (fun hc => ?_) <;> (try rw [hc]) <;> (try simp only [decide_eq_true_eq, decide_eq_false_iff_not, beq_iff_eq, beq_eq_false_iff_ne, bne_iff_ne, bne_eq_false_iff_eq, Bool.not_eq_true', Bool.not_eq_false', Int.not_lt, Int.not_le, ne_eq, reduceCtorEq, not_true_eq_false, not_false_eq_true, Decidable.not_not] at hc) <;> (try (exfalso; omega)) <;> (try refine W_norm rfl ?_))
        | refine W_skip ?_
        | refine W_ret ?_
      )
      | refine seqK_n ?_
      | (refine fnK_r rfl ?_; try dsimp only [gd_z, gd_s]))
    have e1 : ((L.length : Int) - 1).toNat = L.length - 1 := by omega
    have hv := ‹SlR intE R _ (L.take ((L.length : Int) - 1).toNat)›
    rw [e1, ← List.dropLast_eq_take] at hv
    refine ⟨_, rfl, ?_, _, hv, hs⟩
    rw [e1, decide_eq_true hL0, ← getD_last]; rfl
theorem w24 {R : Ro} {M : List Hp} {h : Heap} {id : Nat} {lv : SV} {m g x : Int} {L : List Int} (hs : Sep R (dcO id lv m g :: M) h) (hl : SlR intE R lv L) (hL : L.length ≤ 1000) (hm : 0 ≤ m ∧ m ≤ 1000) (hg : 0 ≤ g ∧ g ≤ 10000) :
    Wc DD 24 [.sc (.ptr id 0), i64 x] h fun w h' => w = bo (decide (m ≤ L.length)) ∧ ∃ R' lv', R.le R' ∧ SlR intE R' lv' (putL m L x) ∧ Sep R' (dcO id lv' m (putG m L g) :: M) h' := by
  unfold putL putG
  have hln := hl.ln
  refine W_enter d24 ?_
  show W _ (.code m24_code [.sc (.ptr id 0), i64 x, undefA, undefA, undefA, undefA, undefA, undefA, undefA, undefA, undefA, undefA, undefA, undefA, undefA, undefA, undefA, undefA, undefA, undefA, undefA, undefA, undefA, undefA, undefA, undefA, undefA, undefA, undefA, undefA, undefA, undefA, undefA, undefA, undefA, undefA, undefA, undefA, undefA, undefA, undefA, undefA, undefA] _) _
  unfold m24_code
  repeat' (first
    | (refine K_ops ?_; first
      | refine W_fastB rfl ?_
      | refine W_nil ?_
      | (refine W_lenL rfl (by first | assumption | exact SlR.ln (by assumption) | exact AccS.ln (by assumption) | exact OwnS.ln (by assumption) | exact VwO.ln (by assumption) | exact OwnP.ln (by assumption) | exact Len.sl) ?_; refine W_norm rfl ?_)
      | (refine K_load ?_; first
        | (refine W_loadC hs 1 rfl rfl rfl ?_; refine W_norm rfl ?_)
      )
      | (refine K_store ?_; first
        | (refine W_storeC hs 1 rfl rfl rfl rfl (by first | decide | assumption) rfl rfl ?_; clear hs; intro _ hs; try simp only [cell_back, attr_back, List.set_cons_zero, List.set_cons_succ, List.eraseIdx_cons_succ, List.eraseIdx_zero, List.tail_cons, List.nil_append, List.cons_append] at hs; refine W_norm rfl ?_)
      )
      | (refine K_bslice ?_; first
        | (refine W_appB1 intE hs 0 rfl rfl rfl (by assumption) rfl rfl rfl ⟨by decide, (by first | omega | (simp only [List.length_set, List.length_append, List.length_take, List.length_drop, List.length_replicate, List.length_cons, List.length_nil, decs_length, List.length_map]; omega))⟩ ?_; clear hs; intro _ _ _ _ _ hs; try simp only [cell_back, attr_back, List.set_cons_zero, List.set_cons_succ, List.eraseIdx_cons_succ, List.eraseIdx_zero, List.tail_cons, List.nil_append, List.cons_append] at hs; refine W_norm rfl ?_)
        | (refine W_buildS0 intE hs ?_; clear hs; intro _ _ _ _ hs; try simp only [cell_back, attr_back, List.set_cons_zero, List.set_cons_succ, List.eraseIdx_cons_succ, List.eraseIdx_zero, List.tail_cons, List.nil_append, List.cons_append] at hs; refine W_norm rfl ?_)
      )
      | (refine K_append ?_; first
        | (refine W_appS hs 0 rfl rfl (by assumption) rfl (by first | assumption | exact SlR.now hs (by assumption) | exact AccS.now (by assumption) hs (by simp) | exact OwnS.now (by assumption) hs (by simp)) rfl ⟨by decide, (by first | omega | (simp only [List.length_set, List.length_append, List.length_take, List.length_drop, List.length_replicate, List.length_cons, List.length_nil, decs_length, List.length_map]; omega))⟩ ?_; clear hs; intro _ _ _ _ hs; try simp only [cell_back, attr_back, List.set_cons_zero, List.set_cons_succ, List.eraseIdx_cons_succ, List.eraseIdx_zero, List.tail_cons, List.nil_append, List.cons_append] at hs; refine W_norm rfl ?_)
      )
    )
    | (refine K_code ?_; first
      | refine W_seq ?_
      | refine W_ops ?_
      | (refine W_cond rfl (fun hc => ?_) (fun hc => ?_) <;> (try rw [hc]) <;> (try simp only [decide_eq_true_eq, decide_eq_false_iff_not, beq_iff_eq, beq_eq_false_iff_ne, bne_iff_ne, bne_eq_false_iff_eq, Bool.not_eq_true', Bool.not_eq_false', Int.not_lt, Int.not_le, ne_eq, reduceCtorEq, not_true_eq_false, not_false_eq_true, Decidable.not_not] at hc) <;> (try (exfalso; omega)) <;> (try refine W_norm rfl ?_))
      | refine W_skip ?_
      | refine W_ret ?_
      | refine W_draw rfl ?_
    )
    | refine seqK_n ?_
    | (refine fnK_r rfl ?_; try dsimp only [gd_z, gd_s]))
  all_goals
    have hv := ‹AccS intE 3 _ ([] ++ L ++ _) _›
    replace hv : AccS intE 3 _ (L ++ [x]) _ := hv
    replace hc : _ := hc
    replace hv := hv.add R
    replace hs := hs.freeze 0 rfl
    simp only [List.eraseIdx_cons_zero] at hs
    have hlx : (L ++ [x]).length = L.length + 1 := by simp
    have hvn := hv.ln
    rw [hlx] at hvn
    simp only [List.nil_append, List.length_append, List.length_cons, List.length_nil, Nat.zero_add] at hc
  · repeat' (first
      | (refine K_ops ?_; first
        | refine W_fastB rfl ?_
        | refine W_nil ?_
        | (refine K_bin ?_; first
          | (refine W_add rfl rfl (IntWalk.i64_in _ (by first | omega | (simp only [List.length_set, List.length_append, List.length_take, List.length_drop, List.length_replicate, List.length_cons, List.length_nil, decs_length, List.length_map]; omega))) ?_; refine W_norm rfl ?_)
        )
        | (refine K_load ?_; first
          | (refine W_loadC hs 0 rfl rfl rfl ?_; refine W_norm rfl ?_)
        )
        | (refine K_store ?_; first
          | (refine W_storeC hs 0 rfl rfl rfl rfl (by first | decide | assumption) rfl rfl ?_; clear hs; intro _ hs; try simp only [cell_back, attr_back, List.set_cons_zero, List.set_cons_succ, List.eraseIdx_cons_succ, List.eraseIdx_zero, List.tail_cons, List.nil_append, List.cons_append] at hs; refine W_norm rfl ?_)
        )
        | (refine K_slice ?_; first
          | (refine W_sliceRFrom rfl rfl (by assumption) rfl ⟨(by first | omega | (simp only [List.length_set, List.length_append, List.length_take, List.length_drop, List.length_replicate, List.length_cons, List.length_nil, decs_length, List.length_map]; omega)), (by first | omega | (simp only [List.length_set, List.length_append, List.length_take, List.length_drop, List.length_replicate, List.length_cons, List.length_nil, decs_length, List.length_map]; omega))⟩ ?_; intro _ _; refine W_norm rfl ?_)
        )
      )
      | (refine K_code ?_; first
        | refine W_seq ?_
        | refine W_ops ?_
        | refine W_ret ?_
      )
      | refine seqK_n ?_
      | refine seqK_r ?_
      | (refine fnK_r rfl ?_; try dsimp only [gd_z, gd_s]))
    have hv2 := ‹SlR intE _ _ ((L ++ [x]).drop (Int.toNat 1))›
    have hlt : m ≤ (L.length : Int) := by omega
    refine ⟨_, rfl, by rw [decide_eq_true hlt], ?_⟩
    rw [if_pos hlt, if_pos hlt]
    exact ⟨_, _, Ro.le_add _ _, hv2, hs⟩
  · have hlt : ¬ m ≤ (L.length : Int) := by omega
    refine ⟨_, rfl, by rw [decide_eq_false hlt], ?_⟩
    rw [if_neg hlt, if_neg hlt]
    exact ⟨_, _, Ro.le_add _ _, hv, hs⟩
theorem w27 {R : Ro} {M : List Hp} {h : Heap} {id : Nat} {lv : SV} {m g n : Int} {L : List Int} (hs : Sep R (dcO id lv m g :: M) h) (hl : SlR intE R lv L) (hL : L.length ≤ 1000) :
    Wc DD 27 [.sc (.ptr id 0), i64 n] h fun w h' => h' = h ∧ ∃ u, w = .sc u ∧ SlR intE R u (lastL L n) := by
  have hln := hl.ln
  refine W_enter d27 ?_
  show W _ (.code m27_code [.sc (.ptr id 0), i64 n, undefA, undefA, undefA, undefA, undefA, undefA, undefA, undefA, undefA, undefA, undefA, undefA, undefA, undefA, undefA, undefA, undefA, undefA, undefA, undefA, undefA, undefA, undefA, undefA, undefA, undefA, undefA, undefA] _) _
  unfold m27_code
  repeat' (first
    | (refine K_ops ?_; first
      | refine W_fastB rfl ?_
      | refine W_nil ?_
      | (refine W_lenL rfl (by first | assumption | exact SlR.ln (by assumption) | exact AccS.ln (by assumption) | exact OwnS.ln (by assumption) | exact VwO.ln (by assumption) | exact OwnP.ln (by assumption) | exact Len.sl) ?_; refine W_norm rfl ?_)
      | (refine K_bin ?_; first
        | (refine W_sub rfl rfl (IntWalk.i64_in _ (by first | omega | (simp only [List.length_set, List.length_append, List.length_take, List.length_drop, List.length_replicate, List.length_cons, List.length_nil, decs_length, List.length_map]; omega))) ?_; refine W_norm rfl ?_)
      )
      | (refine K_load ?_; first
        | (refine W_loadC hs 0 rfl rfl rfl ?_; refine W_norm rfl ?_)
      )
      | (refine K_slice ?_; first
        | (refine W_sliceRFrom rfl rfl (by assumption) rfl ⟨(by first | omega | (simp only [List.length_set, List.length_append, List.length_take, List.length_drop, List.length_replicate, List.length_cons, List.length_nil, decs_length, List.length_map]; omega)), (by first | omega | (simp only [List.length_set, List.length_append, List.length_take, List.length_drop, List.length_replicate, List.length_cons, List.length_nil, decs_length, List.length_map]; omega))⟩ ?_; intro _ _; refine W_norm rfl ?_)
      )
    )
    | (refine K_code ?_; first
      | refine W_seq ?_
      | refine W_ops ?_
      | (refine W_cond rfl (fun hc => ?_) (fun hc => ?_) <;> (try rw [hc]) <;> (try simp only [decide_eq_true_eq, decide_eq_false_iff_not, beq_iff_eq, beq_eq_false_iff_ne, bne_iff_ne, bne_eq_false_iff_eq, Bool.not_eq_true', Bool.not_eq_false', Int.not_lt, Int.not_le, ne_eq, reduceCtorEq, not_true_eq_false, not_false_eq_true, Decidable.not_not] at hc) <;> (try (exfalso; omega)) <;> (try refine W_norm rfl ?_))
      | refine W_skip ?_
      | refine W_ret ?_
      | refine W_draw rfl ?_
    )
    | refine seqK_n ?_
    | refine seqK_r ?_
    | (refine fnK_r rfl ?_; try dsimp only [gd_z, gd_s]))
  · refine ⟨_, rfl, rfl, _, rfl, ?_⟩
    unfold lastL
    rw [List.drop_eq_nil_of_le (by omega)]
    exact SlR.nil _
  · refine ⟨_, rfl, rfl, _, rfl, ?_⟩
    unfold lastL
    rw [show ((L.length : Int) - max n 0).toNat = 0 by omega, List.drop_zero]
    exact hl
  all_goals skip
  · refine ⟨_, rfl, rfl, _, rfl, ?_⟩
    unfold lastL
    rw [show max n 0 = n by omega]
    assumption
end Go.Proofs.Ytjadhoelknmnkaa
/- The law BackPlays: a comparison. -/
set_option linter.unusedSimpArgs false
set_option linter.unusedVariables false
set_option maxHeartbeats 1000000
set_option maxRecDepth 100000
namespace Go.Proofs.Ytjadhoelknmnkaa
open Go Go.Jx

theorem putG_le2 {m : Int} {L : List Int} {g : Int} (h : 0 ≤ g) : g ≤ putG m L g ∧ putG m L g ≤ g + 1 := by unfold putG; split <;> omega
theorem w9n {n : Int} {h : Heap} (hb : -9223372036854775808 ≤ n ∧ n ≤ 9223372036854775807) (hn : ¬ (0 ≤ n ∧ n ≤ 500)) : Wc DD 9 [i64 n] h fun w h' => w = .tup [.sc .nilp, i64 1] ∧ h' = h := by
  refine (w9 (n := n) hb).mono ?_
  rintro _ _ _ ⟨w, rfl, ⟨_, h1, h2⟩ | ⟨h1, _⟩⟩
  · exact ⟨_, rfl, h1, h2⟩
  · exact absurd h1 hn
theorem w10m {R : Ro} {M : List Hp} {h : Heap} {id : Nat} {rv : SV} {b : Bk} {c : Hp} {x m : Int} (hs : Sep R (bkO id rv b :: c :: M) h) (ha : AccS intE 3 rv b.r c) (I : BkI b) (hg : b.g < 1000000) (hm : b.max = m) :
    Wc DD 10 [.sc (.ptr id 0), i64 x] h fun w h' => w = bo (decide (m ≤ b.L.length)) ∧ ∃ rv' b' c', b'.max = m ∧ b'.L = putL m b.L x ∧ b'.g = putG m b.L b.g ∧ BkI b' ∧ AccS intE 3 rv' b'.r c' ∧ Sep R (bkO id rv' b' :: c' :: M) h' := by
  subst hm
  exact w10 hs ha I hg
theorem w26y {R : Ro} {M : List Hp} {h : Heap} {id : Nat} {rv : SV} {b : Bk} {c : Hp} {i : Int} (hs : Sep R (bkO id rv b :: c :: M) h) (ha : AccS intE 3 rv b.r c) (I : BkI b) (hi : 0 ≤ i ∧ i < b.L.length) :
    Wc DD 26 [.sc (.ptr id 0), i64 i] h fun w h' => w = .tup [i64 (b.L.getD i.toNat intE.dflt), bo true] ∧ h' = h := by
  refine (w26 (i := i) hs ha I).mono ?_
  rintro _ _ _ ⟨w, rfl, ⟨x, h1, h2, _⟩, h3⟩
  refine ⟨_, rfl, ?_, h3⟩
  rw [h1, h2 hi, decide_eq_true hi]; rfl
theorem w26z {R : Ro} {M : List Hp} {h : Heap} {id : Nat} {rv : SV} {b : Bk} {c : Hp} {i : Int} (hs : Sep R (bkO id rv b :: c :: M) h) (ha : AccS intE 3 rv b.r c) (I : BkI b) (hi : ¬ (0 ≤ i ∧ i < b.L.length)) :
    Wc DD 26 [.sc (.ptr id 0), i64 i] h fun w h' => w = .tup [i64 0, bo false] ∧ h' = h := by
  refine (w26 (i := i) hs ha I).mono ?_
  rintro _ _ _ ⟨w, rfl, ⟨x, h1, _, h2⟩, h3⟩
  refine ⟨_, rfl, ?_, h3⟩
  rw [h1, h2 hi, decide_eq_false hi]
theorem w5_y {R : Ro} {h : Heap} {e : List AV} {id id2 : Nat} {rv lv : SV} {b : Bk} {c : Hp} {m n : Int} (he : EnvIs 215 [(2, i64 n), (7, .sc (.ptr id 0)), (9, .sc (.ptr id2 0)), (16, i64 (b.L.getD n.toNat intE.dflt)), (17, .sc (.bool true)), (18, .sc (.bool true))] e) (hs : Sep R [bkO id rv b, c, dcO id2 lv m b.g] h) (ha : AccS intE 3 rv b.r c) (I : BkI b) (hl : SlR intE R lv b.L) (hn : -9223372036854775808 ≤ n ∧ n ≤ 9223372036854775807) (hin : 0 ≤ n ∧ n < b.L.length) :
    W DD (.code (.draw m5_r25) e h) (fun x e' h' => x = .normal ∧ ∃ sl, (sl = [(191, .sc (.bool false))] ∧ Sep R [bkO id rv b, c, dcO id2 lv m b.g] h') ∧ EnvB e [128, 129, 130, 131, 132, 133, 134, 135, 136, 137, 138, 139, 140, 141, 142, 143, 144, 145, 146, 147, 148, 149, 150, 151, 152, 153, 154, 155, 156, 157, 158, 159, 160, 161, 162, 163, 164, 165, 166, 167, 168, 169, 170, 171, 172, 173, 174, 175, 176, 177, 178, 179, 180, 181, 182, 183, 184, 185, 186, 187, 188, 189, 190, 191] [0, 1, 2, 3, 4, 5, 6, 7, 8, 9, 10, 11, 12, 13, 14, 15, 16, 17, 18, 19, 20, 21, 22, 23, 24, 25, 26, 27, 28, 29, 30, 31, 32, 33, 34, 35, 36, 37, 38, 39, 40, 41, 42, 43, 44, 45, 46, 47, 48, 49, 50, 51, 52, 53, 54, 55, 56, 57, 58, 59, 60, 61, 62, 63, 64, 65, 66, 67, 68, 69, 70, 71, 72, 73, 74, 75, 76, 77, 78, 79, 80, 81, 82, 83, 84, 85, 86, 87, 88, 89, 90, 91, 92, 93, 94, 95, 96, 97, 98, 99, 100, 101, 102, 103, 104, 105, 106, 107, 108, 109, 110, 111, 112, 113, 114, 115, 116, 117, 118, 119, 120, 121, 122, 123, 124, 125, 126, 127, 128, 129, 130, 131, 132, 133, 134, 135, 136, 137, 138, 139, 140, 141, 142, 143, 144, 145, 146, 147, 148, 149, 150, 151, 152, 153, 154, 155, 156, 157, 158, 159, 160, 161, 162, 163, 164, 165, 166, 167, 168, 169, 170, 171, 172, 173, 174, 175, 176, 177, 178, 179, 180, 181, 182, 183, 184, 185, 186, 187, 188, 189, 190, 191, 192, 193, 194, 195, 196, 197, 198, 199, 200, 201, 202, 203, 204, 205, 206, 207, 208, 209, 210, 211, 212, 213, 214] sl e') := by
  have hLl := I.ll
  have hrl := I.rl
  have m1 := I.m1
  have hg0 := I.g0
  have hll : (lastL b.L n).length ≤ 2 ^ 62 := by unfold lastL; rw [List.length_drop]; omega
  have hll2 : (b.L.take (1000 : Int).toNat).length ≤ 2 ^ 62 := by rw [List.length_take]; omega
  have hll3 : b.L.length ≤ 2 ^ 62 := by omega
  have hE2 : b.L.take (1000 : Int).toNat = b.L := List.take_of_length_le (by show b.L.length ≤ 1000; omega)
  have hln2 := hl.ln
  obtain ⟨us, rfl⟩ := he.list
  rw [show mkE us [(2, i64 n), (7, .sc (.ptr id 0)), (9, .sc (.ptr id2 0)), (16, i64 (b.L.getD n.toNat intE.dflt)), (17, .sc (.bool true)), (18, .sc (.bool true))] 0 215 = [us 0, us 1, i64 n, us 3, us 4, us 5, us 6, .sc (.ptr id 0), us 8, .sc (.ptr id2 0), us 10, us 11, us 12, us 13, us 14, us 15, i64 (b.L.getD n.toNat intE.dflt), .sc (.bool true), .sc (.bool true), us 19, us 20, us 21, us 22, us 23, us 24, us 25, us 26, us 27, us 28, us 29, us 30, us 31, us 32, us 33, us 34, us 35, us 36, us 37, us 38, us 39, us 40, us 41, us 42, us 43, us 44, us 45, us 46, us 47, us 48, us 49, us 50, us 51, us 52, us 53, us 54, us 55, us 56, us 57, us 58, us 59, us 60, us 61, us 62, us 63, us 64, us 65, us 66, us 67, us 68, us 69, us 70, us 71, us 72, us 73, us 74, us 75, us 76, us 77, us 78, us 79, us 80, us 81, us 82, us 83, us 84, us 85, us 86, us 87, us 88, us 89, us 90, us 91, us 92, us 93, us 94, us 95, us 96, us 97, us 98, us 99, us 100, us 101, us 102, us 103, us 104, us 105, us 106, us 107, us 108, us 109, us 110, us 111, us 112, us 113, us 114, us 115, us 116, us 117, us 118, us 119, us 120, us 121, us 122, us 123, us 124, us 125, us 126, us 127, us 128, us 129, us 130, us 131, us 132, us 133, us 134, us 135, us 136, us 137, us 138, us 139, us 140, us 141, us 142, us 143, us 144, us 145, us 146, us 147, us 148, us 149, us 150, us 151, us 152, us 153, us 154, us 155, us 156, us 157, us 158, us 159, us 160, us 161, us 162, us 163, us 164, us 165, us 166, us 167, us 168, us 169, us 170, us 171, us 172, us 173, us 174, us 175, us 176, us 177, us 178, us 179, us 180, us 181, us 182, us 183, us 184, us 185, us 186, us 187, us 188, us 189, us 190, us 191, us 192, us 193, us 194, us 195, us 196, us 197, us 198, us 199, us 200, us 201, us 202, us 203, us 204, us 205, us 206, us 207, us 208, us 209, us 210, us 211, us 212, us 213, us 214] from rfl]
  repeat' (first
    | (refine K_ops ?_; first
      | refine W_fastB rfl ?_
      | refine W_nil ?_
      | (refine K_guard ?_; first
        | refine W_guard_on rfl ?_
        | refine W_guard_off rfl rfl (W_norm rfl ?_)
        | (refine W_guardF rfl (fun hc => ?_) (fun hc => ?_) <;> (try rw [hc]) <;> (try simp only [decide_eq_true_eq, decide_eq_false_iff_not, beq_iff_eq, beq_eq_false_iff_ne, bne_iff_ne, bne_eq_false_iff_eq, Bool.not_eq_true', Bool.not_eq_false', Int.not_lt, Int.not_le, ne_eq, reduceCtorEq, not_true_eq_false, not_false_eq_true, Decidable.not_not] at hc) <;> (try (exfalso; omega)) <;> (try refine W_norm rfl ?_))
      )
      | (refine K_call ?_; first
        | (refine W_callsN 22 rfl (w22 hs) rfl ?_; rintro _ hX ⟨rfl, rfl⟩; refine W_norm rfl ?_)
        | (refine W_callsN 23 rfl (w23 hs) rfl ?_; rintro _ hX ⟨rfl, rfl⟩; refine W_norm rfl ?_)
        | (refine W_callsN 11 rfl (w11 (n := n) hs ha I hn) rfl ?_; rintro _ hX ⟨u, cu, rfl, hau, hs⟩; refine W_norm rfl ?_)
        | (refine W_callsN 27 rfl (w27 (n := n) (hs.front 3 rfl) hl (by omega)) rfl ?_; rintro _ hX ⟨rfl, u2, rfl, hu2⟩; refine W_norm rfl ?_)
        | (refine W_callsN 14 rfl (w14 (A := lastL b.L n) (B := lastL b.L n) (AccS.now hau hs (by simp)) (SlR.now hs hu2) hll hll) rfl ?_; rintro _ hX ⟨rfl, rfl⟩; rw [decide_eq_true rfl]; refine W_norm rfl ?_)
        | (refine W_callsN 28 rfl (w28 (m := 1000) (hs.reord (N := bkO id rv b :: c :: cu :: dcO id2 lv m b.g :: []) (fun a => by simp only [List.flatten_cons, List.flatten_nil, List.count_append, List.count_nil, hpOf_append, hpOf_cons, hpOf_nil, List.append_nil, List.eraseIdx_cons_succ, List.eraseIdx_zero, List.tail_cons] <;> omega)) ha I ⟨by decide, by decide⟩) rfl ?_; rintro _ hX ⟨u3, cu3, rfl, hau3, hs⟩; refine W_norm rfl ?_)
        | (refine W_callsN 14 rfl (w14 (A := b.L.take (1000 : Int).toNat) (B := b.L) (AccS.now hau3 hs (by simp)) (SlR.now hs hl) hll2 hll3) rfl ?_; rintro _ hX ⟨rfl, rfl⟩; rw [decide_eq_true hE2]; refine W_norm rfl ?_)
      )
      | (refine W_lenL rfl (by first | assumption | exact SlR.ln (by assumption) | exact AccS.ln (by assumption) | exact OwnS.ln (by assumption) | exact VwO.ln (by assumption) | exact OwnP.ln (by assumption) | exact Len.sl) ?_; refine W_norm rfl ?_)
      | (refine K_pick ?_; first
        | refine W_pick_t rfl rfl (W_norm rfl ?_)
        | refine W_pick_f rfl rfl (W_norm rfl ?_)
      )
      | (refine K_index ?_; first
        | (refine W_indexR rfl rfl (by assumption) rfl ⟨(by first | omega | (simp only [List.length_set, List.length_append, List.length_take, List.length_drop, List.length_replicate, List.length_cons, List.length_nil, decs_length, List.length_map]; omega)), (by first | omega | (simp only [List.length_set, List.length_append, List.length_take, List.length_drop, List.length_replicate, List.length_cons, List.length_nil, decs_length, List.length_map]; omega))⟩ ?_; intro _ _ _; refine W_norm rfl ?_)
      )
      | (refine K_load ?_; first
        | (refine W_loadR hs rfl (by assumption) rfl ?_; refine W_norm rfl ?_)
        | (refine W_loadC hs 2 rfl rfl rfl ?_; refine W_norm rfl ?_)
        | (refine W_loadC hs 4 rfl rfl rfl ?_; refine W_norm rfl ?_)
      )
    )
    | (refine K_code ?_; first
      | refine W_draws ?_
    )
    | refine W_dstep rfl ?_
    | refine ⟨rfl, fun rc hrec => ?_⟩
    | (refine W_dnilS (by simp only [List.reverse_cons, List.reverse_nil, List.nil_append, List.cons_append]; rfl) (by repeat' first | exact CL_nil _ _ | refine CL_skip rfl ?_ | refine CL_load (by assumption) rfl (by first | exact trivial | (repeat' first | exact trivial | refine ⟨⟨_, rfl, (by refine (congrArg (fun x => Heap.get x _) (RecIs.hh (by assumption))).trans ?_; first | rfl | exact PtR.same_get (by assumption) (by assumption) (by assumption) | exact Sep.same_get (by assumption) (by assumption) 0 0 rfl rfl | exact Sep.same_get (by assumption) (by assumption) 0 1 rfl rfl | exact Sep.same_get (by assumption) (by assumption) 0 2 rfl rfl | exact Sep.same_get (by assumption) (by assumption) 0 3 rfl rfl | exact Sep.same_get (by assumption) (by assumption) 0 4 rfl rfl | exact Sep.same_get (by assumption) (by assumption) 1 0 rfl rfl | exact Sep.same_get (by assumption) (by assumption) 1 1 rfl rfl | exact Sep.same_get (by assumption) (by assumption) 1 2 rfl rfl | exact Sep.same_get (by assumption) (by assumption) 1 3 rfl rfl | exact Sep.same_get (by assumption) (by assumption) 1 4 rfl rfl | exact Sep.same_get (by assumption) (by assumption) 2 0 rfl rfl | exact Sep.same_get (by assumption) (by assumption) 2 1 rfl rfl | exact Sep.same_get (by assumption) (by assumption) 2 2 rfl rfl | exact Sep.same_get (by assumption) (by assumption) 2 3 rfl rfl | exact Sep.same_get (by assumption) (by assumption) 2 4 rfl rfl | exact Sep.same_get (by assumption) (by assumption) 3 0 rfl rfl | exact Sep.same_get (by assumption) (by assumption) 3 1 rfl rfl | exact Sep.same_get (by assumption) (by assumption) 3 2 rfl rfl | exact Sep.same_get (by assumption) (by assumption) 3 3 rfl rfl | exact Sep.same_get (by assumption) (by assumption) 3 4 rfl rfl | exact Sep.same_get (by assumption) (by assumption) 4 0 rfl rfl | exact Sep.same_get (by assumption) (by assumption) 4 1 rfl rfl | exact Sep.same_get (by assumption) (by assumption) 4 2 rfl rfl | exact Sep.same_get (by assumption) (by assumption) 4 3 rfl rfl | exact Sep.same_get (by assumption) (by assumption) 4 4 rfl rfl)⟩, ?_⟩)) (by first | exact trivial | (repeat' first | exact trivial | refine ⟨⟨_, rfl, (by refine (congrArg (fun x => Heap.get x _) (RecIs.hh' (by assumption))).trans ?_; first | rfl | exact PtR.same_get (by assumption) (by assumption) (by assumption) | exact Sep.same_get (by assumption) (by assumption) 0 0 rfl rfl | exact Sep.same_get (by assumption) (by assumption) 0 1 rfl rfl | exact Sep.same_get (by assumption) (by assumption) 0 2 rfl rfl | exact Sep.same_get (by assumption) (by assumption) 0 3 rfl rfl | exact Sep.same_get (by assumption) (by assumption) 0 4 rfl rfl | exact Sep.same_get (by assumption) (by assumption) 1 0 rfl rfl | exact Sep.same_get (by assumption) (by assumption) 1 1 rfl rfl | exact Sep.same_get (by assumption) (by assumption) 1 2 rfl rfl | exact Sep.same_get (by assumption) (by assumption) 1 3 rfl rfl | exact Sep.same_get (by assumption) (by assumption) 1 4 rfl rfl | exact Sep.same_get (by assumption) (by assumption) 2 0 rfl rfl | exact Sep.same_get (by assumption) (by assumption) 2 1 rfl rfl | exact Sep.same_get (by assumption) (by assumption) 2 2 rfl rfl | exact Sep.same_get (by assumption) (by assumption) 2 3 rfl rfl | exact Sep.same_get (by assumption) (by assumption) 2 4 rfl rfl | exact Sep.same_get (by assumption) (by assumption) 3 0 rfl rfl | exact Sep.same_get (by assumption) (by assumption) 3 1 rfl rfl | exact Sep.same_get (by assumption) (by assumption) 3 2 rfl rfl | exact Sep.same_get (by assumption) (by assumption) 3 3 rfl rfl | exact Sep.same_get (by assumption) (by assumption) 3 4 rfl rfl | exact Sep.same_get (by assumption) (by assumption) 4 0 rfl rfl | exact Sep.same_get (by assumption) (by assumption) 4 1 rfl rfl | exact Sep.same_get (by assumption) (by assumption) 4 2 rfl rfl | exact Sep.same_get (by assumption) (by assumption) 4 3 rfl rfl | exact Sep.same_get (by assumption) (by assumption) 4 4 rfl rfl)⟩, ?_⟩)) ?_) ?_))
  all_goals exact ⟨rfl, _, ⟨rfl, ((hs.reord (N := cu3 :: cu :: bkO id rv b :: c :: dcO id2 lv m b.g :: []) (fun a => by simp only [List.flatten_cons, List.flatten_nil, List.count_append, List.count_nil, hpOf_append, hpOf_cons, hpOf_nil, List.append_nil, List.eraseIdx_cons_succ, List.eraseIdx_zero, List.tail_cons] <;> omega)).drop 0).drop 0⟩, EnvB.of rfl⟩
theorem w5_z {R : Ro} {h : Heap} {e : List AV} {id id2 : Nat} {rv lv : SV} {b : Bk} {c : Hp} {m n : Int} (he : EnvIs 215 [(2, i64 n), (7, .sc (.ptr id 0)), (9, .sc (.ptr id2 0)), (16, i64 0), (17, .sc (.bool false)), (18, .sc (.bool false))] e) (hs : Sep R [bkO id rv b, c, dcO id2 lv m b.g] h) (ha : AccS intE 3 rv b.r c) (I : BkI b) (hl : SlR intE R lv b.L) (hn : -9223372036854775808 ≤ n ∧ n ≤ 9223372036854775807) :
    W DD (.code (.draw m5_r25) e h) (fun x e' h' => x = .normal ∧ ∃ sl, (sl = [(191, .sc (.bool false))] ∧ Sep R [bkO id rv b, c, dcO id2 lv m b.g] h') ∧ EnvB e [128, 129, 130, 131, 132, 133, 134, 135, 136, 137, 138, 139, 140, 141, 142, 143, 144, 145, 146, 147, 148, 149, 150, 151, 152, 153, 154, 155, 156, 157, 158, 159, 160, 161, 162, 163, 164, 165, 166, 167, 168, 169, 170, 171, 172, 173, 174, 175, 176, 177, 178, 179, 180, 181, 182, 183, 184, 185, 186, 187, 188, 189, 190, 191] [0, 1, 2, 3, 4, 5, 6, 7, 8, 9, 10, 11, 12, 13, 14, 15, 16, 17, 18, 19, 20, 21, 22, 23, 24, 25, 26, 27, 28, 29, 30, 31, 32, 33, 34, 35, 36, 37, 38, 39, 40, 41, 42, 43, 44, 45, 46, 47, 48, 49, 50, 51, 52, 53, 54, 55, 56, 57, 58, 59, 60, 61, 62, 63, 64, 65, 66, 67, 68, 69, 70, 71, 72, 73, 74, 75, 76, 77, 78, 79, 80, 81, 82, 83, 84, 85, 86, 87, 88, 89, 90, 91, 92, 93, 94, 95, 96, 97, 98, 99, 100, 101, 102, 103, 104, 105, 106, 107, 108, 109, 110, 111, 112, 113, 114, 115, 116, 117, 118, 119, 120, 121, 122, 123, 124, 125, 126, 127, 128, 129, 130, 131, 132, 133, 134, 135, 136, 137, 138, 139, 140, 141, 142, 143, 144, 145, 146, 147, 148, 149, 150, 151, 152, 153, 154, 155, 156, 157, 158, 159, 160, 161, 162, 163, 164, 165, 166, 167, 168, 169, 170, 171, 172, 173, 174, 175, 176, 177, 178, 179, 180, 181, 182, 183, 184, 185, 186, 187, 188, 189, 190, 191, 192, 193, 194, 195, 196, 197, 198, 199, 200, 201, 202, 203, 204, 205, 206, 207, 208, 209, 210, 211, 212, 213, 214] sl e') := by
  have hLl := I.ll
  have hrl := I.rl
  have m1 := I.m1
  have hg0 := I.g0
  have hll : (lastL b.L n).length ≤ 2 ^ 62 := by unfold lastL; rw [List.length_drop]; omega
  have hll2 : (b.L.take (1000 : Int).toNat).length ≤ 2 ^ 62 := by rw [List.length_take]; omega
  have hll3 : b.L.length ≤ 2 ^ 62 := by omega
  have hE2 : b.L.take (1000 : Int).toNat = b.L := List.take_of_length_le (by show b.L.length ≤ 1000; omega)
  have hln2 := hl.ln
  obtain ⟨us, rfl⟩ := he.list
  rw [show mkE us [(2, i64 n), (7, .sc (.ptr id 0)), (9, .sc (.ptr id2 0)), (16, i64 0), (17, .sc (.bool false)), (18, .sc (.bool false))] 0 215 = [us 0, us 1, i64 n, us 3, us 4, us 5, us 6, .sc (.ptr id 0), us 8, .sc (.ptr id2 0), us 10, us 11, us 12, us 13, us 14, us 15, i64 0, .sc (.bool false), .sc (.bool false), us 19, us 20, us 21, us 22, us 23, us 24, us 25, us 26, us 27, us 28, us 29, us 30, us 31, us 32, us 33, us 34, us 35, us 36, us 37, us 38, us 39, us 40, us 41, us 42, us 43, us 44, us 45, us 46, us 47, us 48, us 49, us 50, us 51, us 52, us 53, us 54, us 55, us 56, us 57, us 58, us 59, us 60, us 61, us 62, us 63, us 64, us 65, us 66, us 67, us 68, us 69, us 70, us 71, us 72, us 73, us 74, us 75, us 76, us 77, us 78, us 79, us 80, us 81, us 82, us 83, us 84, us 85, us 86, us 87, us 88, us 89, us 90, us 91, us 92, us 93, us 94, us 95, us 96, us 97, us 98, us 99, us 100, us 101, us 102, us 103, us 104, us 105, us 106, us 107, us 108, us 109, us 110, us 111, us 112, us 113, us 114, us 115, us 116, us 117, us 118, us 119, us 120, us 121, us 122, us 123, us 124, us 125, us 126, us 127, us 128, us 129, us 130, us 131, us 132, us 133, us 134, us 135, us 136, us 137, us 138, us 139, us 140, us 141, us 142, us 143, us 144, us 145, us 146, us 147, us 148, us 149, us 150, us 151, us 152, us 153, us 154, us 155, us 156, us 157, us 158, us 159, us 160, us 161, us 162, us 163, us 164, us 165, us 166, us 167, us 168, us 169, us 170, us 171, us 172, us 173, us 174, us 175, us 176, us 177, us 178, us 179, us 180, us 181, us 182, us 183, us 184, us 185, us 186, us 187, us 188, us 189, us 190, us 191, us 192, us 193, us 194, us 195, us 196, us 197, us 198, us 199, us 200, us 201, us 202, us 203, us 204, us 205, us 206, us 207, us 208, us 209, us 210, us 211, us 212, us 213, us 214] from rfl]
  repeat' (first
    | (refine K_ops ?_; first
      | refine W_fastB rfl ?_
      | refine W_nil ?_
      | (refine K_guard ?_; first
        | refine W_guard_on rfl ?_
        | refine W_guard_off rfl rfl (W_norm rfl ?_)
        | (refine W_guardF rfl (fun hc => ?_) (fun hc => ?_) <;> (try rw [hc]) <;> (try simp only [decide_eq_true_eq, decide_eq_false_iff_not, beq_iff_eq, beq_eq_false_iff_ne, bne_iff_ne, bne_eq_false_iff_eq, Bool.not_eq_true', Bool.not_eq_false', Int.not_lt, Int.not_le, ne_eq, reduceCtorEq, not_true_eq_false, not_false_eq_true, Decidable.not_not] at hc) <;> (try (exfalso; omega)) <;> (try refine W_norm rfl ?_))
      )
      | (refine K_call ?_; first
        | (refine W_callsN 22 rfl (w22 hs) rfl ?_; rintro _ hX ⟨rfl, rfl⟩; refine W_norm rfl ?_)
        | (refine W_callsN 23 rfl (w23 hs) rfl ?_; rintro _ hX ⟨rfl, rfl⟩; refine W_norm rfl ?_)
        | (refine W_callsN 11 rfl (w11 (n := n) hs ha I hn) rfl ?_; rintro _ hX ⟨u, cu, rfl, hau, hs⟩; refine W_norm rfl ?_)
        | (refine W_callsN 27 rfl (w27 (n := n) (hs.front 3 rfl) hl (by omega)) rfl ?_; rintro _ hX ⟨rfl, u2, rfl, hu2⟩; refine W_norm rfl ?_)
        | (refine W_callsN 14 rfl (w14 (A := lastL b.L n) (B := lastL b.L n) (AccS.now hau hs (by simp)) (SlR.now hs hu2) hll hll) rfl ?_; rintro _ hX ⟨rfl, rfl⟩; rw [decide_eq_true rfl]; refine W_norm rfl ?_)
        | (refine W_callsN 28 rfl (w28 (m := 1000) (hs.reord (N := bkO id rv b :: c :: cu :: dcO id2 lv m b.g :: []) (fun a => by simp only [List.flatten_cons, List.flatten_nil, List.count_append, List.count_nil, hpOf_append, hpOf_cons, hpOf_nil, List.append_nil, List.eraseIdx_cons_succ, List.eraseIdx_zero, List.tail_cons] <;> omega)) ha I ⟨by decide, by decide⟩) rfl ?_; rintro _ hX ⟨u3, cu3, rfl, hau3, hs⟩; refine W_norm rfl ?_)
        | (refine W_callsN 14 rfl (w14 (A := b.L.take (1000 : Int).toNat) (B := b.L) (AccS.now hau3 hs (by simp)) (SlR.now hs hl) hll2 hll3) rfl ?_; rintro _ hX ⟨rfl, rfl⟩; rw [decide_eq_true hE2]; refine W_norm rfl ?_)
      )
      | (refine W_lenL rfl (by first | assumption | exact SlR.ln (by assumption) | exact AccS.ln (by assumption) | exact OwnS.ln (by assumption) | exact VwO.ln (by assumption) | exact OwnP.ln (by assumption) | exact Len.sl) ?_; refine W_norm rfl ?_)
      | (refine K_pick ?_; first
        | refine W_pick_t rfl rfl (W_norm rfl ?_)
        | refine W_pick_f rfl rfl (W_norm rfl ?_)
      )
      | (refine K_load ?_; first
        | (refine W_loadC hs 2 rfl rfl rfl ?_; refine W_norm rfl ?_)
        | (refine W_loadC hs 4 rfl rfl rfl ?_; refine W_norm rfl ?_)
      )
    )
    | (refine K_code ?_; first
      | refine W_draws ?_
    )
    | refine W_dstep rfl ?_
    | refine ⟨rfl, fun rc hrec => ?_⟩
    | (refine W_dnilS (by simp only [List.reverse_cons, List.reverse_nil, List.nil_append, List.cons_append]; rfl) (by repeat' first | exact CL_nil _ _ | refine CL_skip rfl ?_ | refine CL_load (by assumption) rfl (by first | exact trivial | (repeat' first | exact trivial | refine ⟨⟨_, rfl, (by refine (congrArg (fun x => Heap.get x _) (RecIs.hh (by assumption))).trans ?_; first | rfl | exact PtR.same_get (by assumption) (by assumption) (by assumption) | exact Sep.same_get (by assumption) (by assumption) 0 0 rfl rfl | exact Sep.same_get (by assumption) (by assumption) 0 1 rfl rfl | exact Sep.same_get (by assumption) (by assumption) 0 2 rfl rfl | exact Sep.same_get (by assumption) (by assumption) 0 3 rfl rfl | exact Sep.same_get (by assumption) (by assumption) 0 4 rfl rfl | exact Sep.same_get (by assumption) (by assumption) 1 0 rfl rfl | exact Sep.same_get (by assumption) (by assumption) 1 1 rfl rfl | exact Sep.same_get (by assumption) (by assumption) 1 2 rfl rfl | exact Sep.same_get (by assumption) (by assumption) 1 3 rfl rfl | exact Sep.same_get (by assumption) (by assumption) 1 4 rfl rfl | exact Sep.same_get (by assumption) (by assumption) 2 0 rfl rfl | exact Sep.same_get (by assumption) (by assumption) 2 1 rfl rfl | exact Sep.same_get (by assumption) (by assumption) 2 2 rfl rfl | exact Sep.same_get (by assumption) (by assumption) 2 3 rfl rfl | exact Sep.same_get (by assumption) (by assumption) 2 4 rfl rfl | exact Sep.same_get (by assumption) (by assumption) 3 0 rfl rfl | exact Sep.same_get (by assumption) (by assumption) 3 1 rfl rfl | exact Sep.same_get (by assumption) (by assumption) 3 2 rfl rfl | exact Sep.same_get (by assumption) (by assumption) 3 3 rfl rfl | exact Sep.same_get (by assumption) (by assumption) 3 4 rfl rfl | exact Sep.same_get (by assumption) (by assumption) 4 0 rfl rfl | exact Sep.same_get (by assumption) (by assumption) 4 1 rfl rfl | exact Sep.same_get (by assumption) (by assumption) 4 2 rfl rfl | exact Sep.same_get (by assumption) (by assumption) 4 3 rfl rfl | exact Sep.same_get (by assumption) (by assumption) 4 4 rfl rfl)⟩, ?_⟩)) (by first | exact trivial | (repeat' first | exact trivial | refine ⟨⟨_, rfl, (by refine (congrArg (fun x => Heap.get x _) (RecIs.hh' (by assumption))).trans ?_; first | rfl | exact PtR.same_get (by assumption) (by assumption) (by assumption) | exact Sep.same_get (by assumption) (by assumption) 0 0 rfl rfl | exact Sep.same_get (by assumption) (by assumption) 0 1 rfl rfl | exact Sep.same_get (by assumption) (by assumption) 0 2 rfl rfl | exact Sep.same_get (by assumption) (by assumption) 0 3 rfl rfl | exact Sep.same_get (by assumption) (by assumption) 0 4 rfl rfl | exact Sep.same_get (by assumption) (by assumption) 1 0 rfl rfl | exact Sep.same_get (by assumption) (by assumption) 1 1 rfl rfl | exact Sep.same_get (by assumption) (by assumption) 1 2 rfl rfl | exact Sep.same_get (by assumption) (by assumption) 1 3 rfl rfl | exact Sep.same_get (by assumption) (by assumption) 1 4 rfl rfl | exact Sep.same_get (by assumption) (by assumption) 2 0 rfl rfl | exact Sep.same_get (by assumption) (by assumption) 2 1 rfl rfl | exact Sep.same_get (by assumption) (by assumption) 2 2 rfl rfl | exact Sep.same_get (by assumption) (by assumption) 2 3 rfl rfl | exact Sep.same_get (by assumption) (by assumption) 2 4 rfl rfl | exact Sep.same_get (by assumption) (by assumption) 3 0 rfl rfl | exact Sep.same_get (by assumption) (by assumption) 3 1 rfl rfl | exact Sep.same_get (by assumption) (by assumption) 3 2 rfl rfl | exact Sep.same_get (by assumption) (by assumption) 3 3 rfl rfl | exact Sep.same_get (by assumption) (by assumption) 3 4 rfl rfl | exact Sep.same_get (by assumption) (by assumption) 4 0 rfl rfl | exact Sep.same_get (by assumption) (by assumption) 4 1 rfl rfl | exact Sep.same_get (by assumption) (by assumption) 4 2 rfl rfl | exact Sep.same_get (by assumption) (by assumption) 4 3 rfl rfl | exact Sep.same_get (by assumption) (by assumption) 4 4 rfl rfl)⟩, ?_⟩)) ?_) ?_))
  all_goals exact ⟨rfl, _, ⟨rfl, ((hs.reord (N := cu3 :: cu :: bkO id rv b :: c :: dcO id2 lv m b.g :: []) (fun a => by simp only [List.flatten_cons, List.flatten_nil, List.count_append, List.count_nil, hpOf_append, hpOf_cons, hpOf_nil, List.append_nil, List.eraseIdx_cons_succ, List.eraseIdx_zero, List.tail_cons] <;> omega)).drop 0).drop 0⟩, EnvB.of rfl⟩
end Go.Proofs.Ytjadhoelknmnkaa
/- The law BackPlays: the end. -/
set_option linter.unusedSimpArgs false
set_option linter.unusedVariables false
set_option maxHeartbeats 1000000
set_option maxRecDepth 100000
namespace Go.Proofs.Ytjadhoelknmnkaa
open Go Go.Jx

theorem w5_f {R : Ro} {h : Heap} {e : List AV} {id id2 : Nat} {rv lv : SV} {b : Bk} {c : Hp} {m : Int} (he : EnvIs 215 [(7, .sc (.ptr id 0)), (9, .sc (.ptr id2 0))] e) (hs : Sep R [bkO id rv b, c, dcO id2 lv m b.g] h) (ha : AccS intE 3 rv b.r c) (I : BkI b) (hL : b.L = []) :
    W DD (.code (.draw m5_r29) e h) (fun x e' h' => x = .normal ∧ ∃ sl, (sl = [(6, .sc (.bool true))] ∧ True) ∧ EnvB e [6, 194, 195, 196, 197, 198, 199, 200, 201, 202, 203, 204, 205, 206, 207, 208, 209, 210, 211, 212, 213, 214] [0, 1, 2, 3, 4, 5, 6, 7, 8, 9, 10, 11, 12, 13, 14, 15, 16, 17, 18, 19, 20, 21, 22, 23, 24, 25, 26, 27, 28, 29, 30, 31, 32, 33, 34, 35, 36, 37, 38, 39, 40, 41, 42, 43, 44, 45, 46, 47, 48, 49, 50, 51, 52, 53, 54, 55, 56, 57, 58, 59, 60, 61, 62, 63, 64, 65, 66, 67, 68, 69, 70, 71, 72, 73, 74, 75, 76, 77, 78, 79, 80, 81, 82, 83, 84, 85, 86, 87, 88, 89, 90, 91, 92, 93, 94, 95, 96, 97, 98, 99, 100, 101, 102, 103, 104, 105, 106, 107, 108, 109, 110, 111, 112, 113, 114, 115, 116, 117, 118, 119, 120, 121, 122, 123, 124, 125, 126, 127, 128, 129, 130, 131, 132, 133, 134, 135, 136, 137, 138, 139, 140, 141, 142, 143, 144, 145, 146, 147, 148, 149, 150, 151, 152, 153, 154, 155, 156, 157, 158, 159, 160, 161, 162, 163, 164, 165, 166, 167, 168, 169, 170, 171, 172, 173, 174, 175, 176, 177, 178, 179, 180, 181, 182, 183, 184, 185, 186, 187, 188, 189, 190, 191, 192, 193, 194, 195, 196, 197, 198, 199, 200, 201, 202, 203, 204, 205, 206, 207, 208, 209, 210, 211, 212, 213, 214] sl e') := by
  have hL0 : b.L.length = 0 := by rw [hL]; rfl
  obtain ⟨us, rfl⟩ := he.list
  rw [show mkE us [(7, .sc (.ptr id 0)), (9, .sc (.ptr id2 0))] 0 215 = [us 0, us 1, us 2, us 3, us 4, us 5, us 6, .sc (.ptr id 0), us 8, .sc (.ptr id2 0), us 10, us 11, us 12, us 13, us 14, us 15, us 16, us 17, us 18, us 19, us 20, us 21, us 22, us 23, us 24, us 25, us 26, us 27, us 28, us 29, us 30, us 31, us 32, us 33, us 34, us 35, us 36, us 37, us 38, us 39, us 40, us 41, us 42, us 43, us 44, us 45, us 46, us 47, us 48, us 49, us 50, us 51, us 52, us 53, us 54, us 55, us 56, us 57, us 58, us 59, us 60, us 61, us 62, us 63, us 64, us 65, us 66, us 67, us 68, us 69, us 70, us 71, us 72, us 73, us 74, us 75, us 76, us 77, us 78, us 79, us 80, us 81, us 82, us 83, us 84, us 85, us 86, us 87, us 88, us 89, us 90, us 91, us 92, us 93, us 94, us 95, us 96, us 97, us 98, us 99, us 100, us 101, us 102, us 103, us 104, us 105, us 106, us 107, us 108, us 109, us 110, us 111, us 112, us 113, us 114, us 115, us 116, us 117, us 118, us 119, us 120, us 121, us 122, us 123, us 124, us 125, us 126, us 127, us 128, us 129, us 130, us 131, us 132, us 133, us 134, us 135, us 136, us 137, us 138, us 139, us 140, us 141, us 142, us 143, us 144, us 145, us 146, us 147, us 148, us 149, us 150, us 151, us 152, us 153, us 154, us 155, us 156, us 157, us 158, us 159, us 160, us 161, us 162, us 163, us 164, us 165, us 166, us 167, us 168, us 169, us 170, us 171, us 172, us 173, us 174, us 175, us 176, us 177, us 178, us 179, us 180, us 181, us 182, us 183, us 184, us 185, us 186, us 187, us 188, us 189, us 190, us 191, us 192, us 193, us 194, us 195, us 196, us 197, us 198, us 199, us 200, us 201, us 202, us 203, us 204, us 205, us 206, us 207, us 208, us 209, us 210, us 211, us 212, us 213, us 214] from rfl]
  repeat' (first
    | (refine K_ops ?_; first
      | refine W_fastB rfl ?_
      | refine W_nil ?_
      | (refine K_guard ?_; first
        | refine W_guard_on rfl ?_
        | (refine W_guardT rfl (fun hc => ?_) (fun hc => ?_) <;> (try rw [hc]) <;> (try simp only [decide_eq_true_eq, decide_eq_false_iff_not, beq_iff_eq, beq_eq_false_iff_ne, bne_iff_ne, bne_eq_false_iff_eq, Bool.not_eq_true', Bool.not_eq_false', Int.not_lt, Int.not_le, ne_eq, reduceCtorEq, not_true_eq_false, not_false_eq_true, Decidable.not_not] at hc) <;> (try (exfalso; omega)) <;> (try refine W_norm rfl ?_))
      )
      | (refine K_call ?_; first
        | (refine W_callsN 22 rfl (w22 hs) rfl ?_; rintro _ hX ⟨rfl, rfl⟩; rw [hL0]; refine W_norm rfl ?_)
        | (refine W_callsN 23 rfl (w23 hs) rfl ?_; rintro _ hX ⟨rfl, rfl⟩; refine W_norm rfl ?_)
        | (refine W_callsN 28 rfl (w28 (m := 9) hs ha I ⟨by decide, by decide⟩) rfl ?_; rintro _ hX ⟨u3, cu3, rfl, hau3, hs⟩; have hu3 := hau3.ln; rw [hL, List.take_nil] at hu3; refine W_norm rfl ?_)
        | (refine W_callsN 8 rfl (w8g _) rfl ?_; rintro _ hX ⟨rfl, rfl⟩; refine W_norm rfl ?_)
      )
      | (refine W_lenL rfl (by first | assumption | exact SlR.ln (by assumption) | exact AccS.ln (by assumption) | exact OwnS.ln (by assumption) | exact VwO.ln (by assumption) | exact OwnP.ln (by assumption) | exact Len.sl) ?_; refine W_norm rfl ?_)
      | (refine K_pick ?_; first
        | refine W_pick_t rfl rfl (W_norm rfl ?_)
      )
      | (refine K_load ?_; first
        | (refine W_loadC hs 2 rfl rfl rfl ?_; refine W_norm rfl ?_)
      )
    )
    | (refine K_code ?_; first
      | refine W_draws ?_
    )
    | refine W_dstep rfl ?_
    | refine ⟨rfl, fun rc hrec => ?_⟩
    | (refine W_dnilS (by simp only [List.reverse_cons, List.reverse_nil, List.nil_append, List.cons_append]; rfl) (by repeat' first | exact CL_nil _ _ | refine CL_skip rfl ?_ | refine CL_load (by assumption) rfl (by first | exact trivial | (repeat' first | exact trivial | refine ⟨⟨_, rfl, (by refine (congrArg (fun x => Heap.get x _) (RecIs.hh (by assumption))).trans ?_; first | rfl | exact PtR.same_get (by assumption) (by assumption) (by assumption) | exact Sep.same_get (by assumption) (by assumption) 0 0 rfl rfl | exact Sep.same_get (by assumption) (by assumption) 0 1 rfl rfl | exact Sep.same_get (by assumption) (by assumption) 0 2 rfl rfl | exact Sep.same_get (by assumption) (by assumption) 0 3 rfl rfl | exact Sep.same_get (by assumption) (by assumption) 1 0 rfl rfl | exact Sep.same_get (by assumption) (by assumption) 1 1 rfl rfl | exact Sep.same_get (by assumption) (by assumption) 1 2 rfl rfl | exact Sep.same_get (by assumption) (by assumption) 1 3 rfl rfl | exact Sep.same_get (by assumption) (by assumption) 2 0 rfl rfl | exact Sep.same_get (by assumption) (by assumption) 2 1 rfl rfl | exact Sep.same_get (by assumption) (by assumption) 2 2 rfl rfl | exact Sep.same_get (by assumption) (by assumption) 2 3 rfl rfl | exact Sep.same_get (by assumption) (by assumption) 3 0 rfl rfl | exact Sep.same_get (by assumption) (by assumption) 3 1 rfl rfl | exact Sep.same_get (by assumption) (by assumption) 3 2 rfl rfl | exact Sep.same_get (by assumption) (by assumption) 3 3 rfl rfl)⟩, ?_⟩)) (by first | exact trivial | (repeat' first | exact trivial | refine ⟨⟨_, rfl, (by refine (congrArg (fun x => Heap.get x _) (RecIs.hh' (by assumption))).trans ?_; first | rfl | exact PtR.same_get (by assumption) (by assumption) (by assumption) | exact Sep.same_get (by assumption) (by assumption) 0 0 rfl rfl | exact Sep.same_get (by assumption) (by assumption) 0 1 rfl rfl | exact Sep.same_get (by assumption) (by assumption) 0 2 rfl rfl | exact Sep.same_get (by assumption) (by assumption) 0 3 rfl rfl | exact Sep.same_get (by assumption) (by assumption) 1 0 rfl rfl | exact Sep.same_get (by assumption) (by assumption) 1 1 rfl rfl | exact Sep.same_get (by assumption) (by assumption) 1 2 rfl rfl | exact Sep.same_get (by assumption) (by assumption) 1 3 rfl rfl | exact Sep.same_get (by assumption) (by assumption) 2 0 rfl rfl | exact Sep.same_get (by assumption) (by assumption) 2 1 rfl rfl | exact Sep.same_get (by assumption) (by assumption) 2 2 rfl rfl | exact Sep.same_get (by assumption) (by assumption) 2 3 rfl rfl | exact Sep.same_get (by assumption) (by assumption) 3 0 rfl rfl | exact Sep.same_get (by assumption) (by assumption) 3 1 rfl rfl | exact Sep.same_get (by assumption) (by assumption) 3 2 rfl rfl | exact Sep.same_get (by assumption) (by assumption) 3 3 rfl rfl)⟩, ?_⟩)) ?_) ?_))
  all_goals exact ⟨rfl, _, ⟨rfl, trivial⟩, EnvB.of rfl⟩
end Go.Proofs.Ytjadhoelknmnkaa
/- The law BackPlays. -/
set_option linter.unusedSimpArgs false
set_option linter.unusedVariables false
set_option maxHeartbeats 1000000
set_option maxRecDepth 100000
namespace Go.Proofs.Ytjadhoelknmnkaa
open Go Go.Jx

theorem w5 {v : SV} {A : List Int} {m n : Int} {h : Heap} (hA : SlR intE (Now h) v A) (hlA : A.length ≤ 2 ^ 63 - 1) (hAb : ∀ a ∈ A, -9223372036854775808 ≤ a ∧ a ≤ 9223372036854775807) (hm : -9223372036854775808 ≤ m ∧ m ≤ 9223372036854775807) (hn : -9223372036854775808 ≤ n ∧ n ≤ 9223372036854775807) :
    Wc DD 5 [i64 m, .sc v, i64 n] h fun w h' => w = bo true := by
  have hs := Sep.entry h
  have hAn := hA.ln
  refine W_enter d5 ?_
  show W _ (.code m5_code [i64 m, .sc v, i64 n, undefA, undefA, undefA, undefA, undefA, undefA, undefA, undefA, undefA, undefA, undefA, undefA, undefA, undefA, undefA, undefA, undefA, undefA, undefA, undefA, undefA, undefA, undefA, undefA, undefA, undefA, undefA, undefA, undefA, undefA, undefA, undefA, undefA, undefA, undefA, undefA, undefA, undefA, undefA, undefA, undefA, undefA, undefA, undefA, undefA, undefA, undefA, undefA, undefA, undefA, undefA, undefA, undefA, undefA, undefA, undefA, undefA, undefA, undefA, undefA, undefA, undefA, undefA, undefA, undefA, undefA, undefA, undefA, undefA, undefA, undefA, undefA, undefA, undefA, undefA, undefA, undefA, undefA, undefA, undefA, undefA, undefA, undefA, undefA, undefA, undefA, undefA, undefA, undefA, undefA, undefA, undefA, undefA, undefA, undefA, undefA, undefA, undefA, undefA, undefA, undefA, undefA, undefA, undefA, undefA, undefA, undefA, undefA, undefA, undefA, undefA, undefA, undefA, undefA, undefA, undefA, undefA, undefA, undefA, undefA, undefA, undefA, undefA, undefA, undefA, undefA, undefA, undefA, undefA, undefA, undefA, undefA, undefA, undefA, undefA, undefA, undefA, undefA, undefA, undefA, undefA, undefA, undefA, undefA, undefA, undefA, undefA, undefA, undefA, undefA, undefA, undefA, undefA, undefA, undefA, undefA, undefA, undefA, undefA, undefA, undefA, undefA, undefA, undefA, undefA, undefA, undefA, undefA, undefA, undefA, undefA, undefA, undefA, undefA, undefA, undefA, undefA, undefA, undefA, undefA, undefA, undefA, undefA, undefA, undefA, undefA, undefA, undefA, undefA, undefA, undefA, undefA, undefA, undefA, undefA, undefA, undefA, undefA, undefA, undefA, undefA, undefA, undefA, undefA, undefA, undefA, undefA, undefA, undefA, undefA, undefA, undefA] _) _
  unfold m5_code
  by_cases hg : A.length ≤ 300
  · by_cases hmr : 0 ≤ m ∧ m ≤ 500
    · repeat' (first
        | (refine K_ops ?_; first
          | refine W_fastB rfl ?_
          | refine W_nil ?_
          | (refine K_guard ?_; first
            | refine W_guard_on rfl ?_
            | (refine W_guardF rfl (fun hc => ?_) (fun hc => ?_) <;> (try rw [hc]) <;> (try simp only [decide_eq_true_eq, decide_eq_false_iff_not, beq_iff_eq, beq_eq_false_iff_ne, bne_iff_ne, bne_eq_false_iff_eq, Bool.not_eq_true', Bool.not_eq_false', Int.not_lt, Int.not_le, ne_eq, reduceCtorEq, not_true_eq_false, not_false_eq_true, Decidable.not_not] at hc) <;> (try (exfalso; omega)) <;> (try refine W_norm rfl ?_))
          )
          | (refine K_call ?_; first
            | (refine W_callsN 9 rfl (w9y hmr) rfl ?_; rintro _ hX ⟨id, rfl, I0, t⟩; replace hs := hs.call t; try simp only [cell_back, attr_back, List.set_cons_zero, List.set_cons_succ, List.eraseIdx_cons_succ, List.eraseIdx_zero, List.tail_cons, List.nil_append, List.cons_append] at hs; refine W_norm rfl ?_)
          )
          | (refine W_lenL rfl (by first | assumption | exact SlR.ln (by assumption) | exact AccS.ln (by assumption) | exact OwnS.ln (by assumption) | exact VwO.ln (by assumption) | exact OwnP.ln (by assumption) | exact Len.sl) ?_; refine W_norm rfl ?_)
          | (refine K_bin ?_; first
            | (refine W_nil_ptr_f rfl rfl rfl ?_; refine W_norm rfl ?_)
          )
          | (refine K_pick ?_; first
            | refine W_pick_f rfl rfl (W_norm rfl ?_)
          )
          | (refine W_boxS hs rfl rfl ?_; clear hs; intro bx _ hs; try simp only [cell_back, attr_back, List.set_cons_zero, List.set_cons_succ, List.eraseIdx_cons_succ, List.eraseIdx_zero, List.tail_cons, List.nil_append, List.cons_append] at hs; refine W_norm rfl ?_)
          | (refine W_buildN rfl ?_; refine W_norm rfl ?_)
        )
        | (refine K_code ?_; first
          | (refine W_midB (a := .ops m5_r8) [9, 49, 50, 51] [0, 1, 2, 3, 4, 5, 6, 7, 8, 9, 10, 11, 12, 13, 14, 15, 16, 17, 18, 19, 20, 21, 22, 23, 24, 25, 26, 27, 28, 29, 30, 31, 32, 33, 34, 35, 36, 37, 38, 39, 40, 41, 42, 43, 44, 45, 46, 47, 48, 49, 50, 51, 52, 53, 54, 55, 56, 57, 58, 59, 60, 61, 62, 63, 64, 65, 66, 67, 68, 69, 70, 71, 72, 73, 74, 75, 76, 77, 78, 79, 80, 81, 82, 83, 84, 85, 86, 87, 88, 89, 90, 91, 92, 93, 94, 95, 96, 97, 98, 99, 100, 101, 102, 103, 104, 105, 106, 107, 108, 109, 110, 111, 112, 113, 114, 115, 116, 117, 118, 119, 120, 121, 122, 123, 124, 125, 126, 127, 128, 129, 130, 131, 132, 133, 134, 135, 136, 137, 138, 139, 140, 141, 142, 143, 144, 145, 146, 147, 148, 149, 150, 151, 152, 153, 154, 155, 156, 157, 158, 159, 160, 161, 162, 163, 164, 165, 166, 167, 168, 169, 170, 171, 172, 173, 174, 175, 176, 177, 178, 179, 180, 181, 182, 183, 184, 185, 186, 187, 188, 189, 190, 191, 192, 193, 194, 195, 196, 197, 198, 199, 200, 201, 202, 203, 204, 205, 206, 207, 208, 209, 210, 211, 212, 213, 214] (fun sl h' => ∃ (id2 : Nat), sl = [(9, .sc (.ptr id2 0))] ∧ Sep (Now h) [dcO id2 .nils m 0, bkO id .nils ⟨m, [], 0, [], 0⟩] h') ?_ ?_)
          | refine W_seq ?_
          | refine W_ops ?_
          | refine W_cond_f rfl ?_
          | (refine W_cond rfl (fun hc => ?_) (fun hc => ?_) <;> (try rw [hc]) <;> (try simp only [decide_eq_true_eq, decide_eq_false_iff_not, beq_iff_eq, beq_eq_false_iff_ne, bne_iff_ne, bne_eq_false_iff_eq, Bool.not_eq_true', Bool.not_eq_false', Int.not_lt, Int.not_le, ne_eq, reduceCtorEq, not_true_eq_false, not_false_eq_true, Decidable.not_not] at hc) <;> (try (exfalso; omega)) <;> (try refine W_norm rfl ?_))
          | refine W_skip ?_
        )
        | refine seqK_n ?_
        | refine midK_n ?_)
      · exact ⟨_, ⟨_, rfl, hs⟩, EnvB.of rfl⟩
      clear hs t
      rintro _ us _ h2 ⟨id2, rfl, hs⟩ he
      refine W_spell he rfl ?_
      clear he
      repeat' (first
        | (refine K_ops ?_; first
          | refine W_fastB rfl ?_
          | refine W_nil ?_
        )
        | (refine K_code ?_; first
          | refine W_seq ?_
          | refine W_ops ?_
          | refine W_block ?_
        )
        | refine seqK_n ?_)
      refine W_loopB [6, 10, 11, 12, 13, 14, 15, 16, 17, 18, 52, 53, 54, 55, 56, 57, 58, 59, 60, 61, 62, 63, 64, 65, 66, 67, 68, 69, 70, 71, 72, 73, 74, 75, 76, 77, 78, 79, 80, 81, 82, 83, 84, 85, 86, 87, 88, 89, 90, 91, 92, 93, 94, 95, 96, 97, 98, 99, 100, 101, 102, 103, 104, 105, 106, 107, 108, 109, 110, 111, 112, 113, 114, 115, 116, 117, 118, 119, 120, 121, 122, 123, 124, 125, 126, 127, 128, 129, 130, 131, 132, 133, 134, 135, 136, 137, 138, 139, 140, 141, 142, 143, 144, 145, 146, 147, 148, 149, 150, 151, 152, 153, 154, 155, 156, 157, 158, 159, 160, 161, 162, 163, 164, 165, 166, 167, 168, 169, 170, 171, 172, 173, 174, 175, 176, 177, 178, 179, 180, 181, 182, 183, 184, 185, 186, 187, 188, 189, 190, 191] [0, 1, 2, 3, 4, 5, 6, 7, 8, 9, 10, 11, 12, 13, 14, 15, 16, 17, 18, 19, 20, 21, 22, 23, 24, 25, 26, 27, 28, 29, 30, 31, 32, 33, 34, 35, 36, 37, 38, 39, 40, 41, 42, 43, 44, 45, 46, 47, 48, 49, 50, 51, 52, 53, 54, 55, 56, 57, 58, 59, 60, 61, 62, 63, 64, 65, 66, 67, 68, 69, 70, 71, 72, 73, 74, 75, 76, 77, 78, 79, 80, 81, 82, 83, 84, 85, 86, 87, 88, 89, 90, 91, 92, 93, 94, 95, 96, 97, 98, 99, 100, 101, 102, 103, 104, 105, 106, 107, 108, 109, 110, 111, 112, 113, 114, 115, 116, 117, 118, 119, 120, 121, 122, 123, 124, 125, 126, 127, 128, 129, 130, 131, 132, 133, 134, 135, 136, 137, 138, 139, 140, 141, 142, 143, 144, 145, 146, 147, 148, 149, 150, 151, 152, 153, 154, 155, 156, 157, 158, 159, 160, 161, 162, 163, 164, 165, 166, 167, 168, 169, 170, 171, 172, 173, 174, 175, 176, 177, 178, 179, 180, 181, 182, 183, 184, 185, 186, 187, 188, 189, 190, 191, 192, 193, 194, 195, 196, 197, 198, 199, 200, 201, 202, 203, 204, 205, 206, 207, 208, 209, 210, 211, 212, 213, 214] (fun n' sl h' => ∃ (k : Nat) (R : Ro) (rv : SV) (b : Bk) (c : Hp) (lv : SV), sl = [(10, .sc (.int .i64 (k : Int)))] ∧ n' = A.length - k ∧ k ≤ A.length ∧ SlR intE R v A ∧ SlR intE R lv b.L ∧ b.max = m ∧ b.g ≤ (k : Int) ∧ BkI b ∧ AccS intE 3 rv b.r c ∧ Sep R [bkO id rv b, c, dcO id2 lv m b.g] h') ?_ ?_
      · refine ⟨_, _, ⟨0, Now h, .nils, ⟨m, [], 0, [], 0⟩, [], .nils, rfl, rfl, Nat.zero_le _, hA, SlR.nil _, rfl, by simp, I0, AccS.nil _, hs.reord (fun a => by simp only [List.flatten_cons, List.flatten_nil, List.count_append, List.count_nil, hpOf_append, hpOf_cons, hpOf_nil, List.append_nil, List.eraseIdx_cons_succ, List.eraseIdx_zero, List.tail_cons] <;> omega)⟩, EnvB.of rfl⟩
      clear hs I0
      rintro _ _ us _ h2 ⟨k, R, rv, b, c, lv, rfl, rfl, hk, hA1, hl, e1, e2, I, ha, hs⟩ he
      refine W_spell he rfl ?_
      clear he
      unfold m5_l10
      have hLl := I.ll
      have hrl := I.rl
      have hg0 := I.g0
      by_cases hlt : k < A.length
      · have hb := hAb _ (List.getElem_mem hlt)
        have hgd : A.getD k 0 = A[k] := by rw [List.getD_eq_getElem?_getD, List.getElem?_eq_getElem hlt]; rfl
        rw [← hgd] at hb
        obtain ⟨a, hav⟩ : ∃ a, A.getD ((k : Int)).toNat intE.dflt = a := ⟨_, rfl⟩
        replace hav : A.getD ((k : Int)).toNat intE.dflt = a := hav
        rw [show A.getD k 0 = A.getD ((k : Int)).toNat intE.dflt from rfl] at hb
        rw [hav] at hb
        repeat' (first
          | (refine K_ops ?_; first
            | refine W_fastB rfl ?_
            | refine W_nil ?_
            | (refine W_lenL rfl (by first | assumption | exact SlR.ln (by assumption) | exact AccS.ln (by assumption) | exact OwnS.ln (by assumption) | exact VwO.ln (by assumption) | exact OwnP.ln (by assumption) | exact Len.sl) ?_; refine W_norm rfl ?_)
            | (refine K_index ?_; first
              | (refine W_indexR rfl rfl (by assumption) rfl ⟨(by first | omega | (simp only [List.length_set, List.length_append, List.length_take, List.length_drop, List.length_replicate, List.length_cons, List.length_nil, decs_length, List.length_map]; omega)), (by first | omega | (simp only [List.length_set, List.length_append, List.length_take, List.length_drop, List.length_replicate, List.length_cons, List.length_nil, decs_length, List.length_map]; omega))⟩ ?_; intro _ _ _; refine W_norm rfl ?_)
            )
            | (refine K_load ?_; first
              | (refine W_loadR hs rfl (by assumption) rfl ?_; refine W_norm rfl ?_)
            )
          )
          | (refine K_code ?_; first
            | (refine W_midB (a := .seq (.ops m5_r12) _) [6, 11, 12, 13, 14, 15, 58, 59, 60, 61, 62, 63, 64, 65, 66, 67, 68, 69, 70, 71, 72, 73, 74, 75, 76, 77, 78, 79, 80, 81, 82, 83, 84, 85, 86, 87, 88, 89, 90, 91, 92, 93, 94, 95, 96, 97, 98, 99, 100, 101, 102, 103, 104, 105, 106, 107, 108, 109, 110] [0, 1, 2, 3, 4, 5, 6, 7, 8, 9, 10, 11, 12, 13, 14, 15, 16, 17, 18, 19, 20, 21, 22, 23, 24, 25, 26, 27, 28, 29, 30, 31, 32, 33, 34, 35, 36, 37, 38, 39, 40, 41, 42, 43, 44, 45, 46, 47, 48, 49, 50, 51, 52, 53, 54, 55, 56, 57, 58, 59, 60, 61, 62, 63, 64, 65, 66, 67, 68, 69, 70, 71, 72, 73, 74, 75, 76, 77, 78, 79, 80, 81, 82, 83, 84, 85, 86, 87, 88, 89, 90, 91, 92, 93, 94, 95, 96, 97, 98, 99, 100, 101, 102, 103, 104, 105, 106, 107, 108, 109, 110, 111, 112, 113, 114, 115, 116, 117, 118, 119, 120, 121, 122, 123, 124, 125, 126, 127, 128, 129, 130, 131, 132, 133, 134, 135, 136, 137, 138, 139, 140, 141, 142, 143, 144, 145, 146, 147, 148, 149, 150, 151, 152, 153, 154, 155, 156, 157, 158, 159, 160, 161, 162, 163, 164, 165, 166, 167, 168, 169, 170, 171, 172, 173, 174, 175, 176, 177, 178, 179, 180, 181, 182, 183, 184, 185, 186, 187, 188, 189, 190, 191, 192, 193, 194, 195, 196, 197, 198, 199, 200, 201, 202, 203, 204, 205, 206, 207, 208, 209, 210, 211, 212, 213, 214] (fun sl h' => ∃ (R2 : Ro) (rv2 : SV) (b2 : Bk) (c2 : Hp) (lv2 : SV), sl = [] ∧ SlR intE R2 v A ∧ SlR intE R2 lv2 b2.L ∧ b2.max = m ∧ b2.g ≤ ((k + 1 : Nat) : Int) ∧ BkI b2 ∧ AccS intE 3 rv2 b2.r c2 ∧ Sep R2 [bkO id rv2 b2, c2, dcO id2 lv2 m b2.g] h') ?_ ?_)
            | refine W_seq ?_
            | refine W_ops ?_
            | (refine W_cond rfl (fun hc => ?_) (fun hc => ?_) <;> (try rw [hc]) <;> (try simp only [decide_eq_true_eq, decide_eq_false_iff_not, beq_iff_eq, beq_eq_false_iff_ne, bne_iff_ne, bne_eq_false_iff_eq, Bool.not_eq_true', Bool.not_eq_false', Int.not_lt, Int.not_le, ne_eq, reduceCtorEq, not_true_eq_false, not_false_eq_true, Decidable.not_not] at hc) <;> (try (exfalso; omega)) <;> (try refine W_norm rfl ?_))
            | refine W_skip ?_
            | refine W_block ?_
          )
          | refine seqK_n ?_)
        · repeat' (first
            | (refine K_ops ?_; first
              | refine W_fastB rfl ?_
              | refine W_nil ?_
              | (refine K_call ?_; first
                | (refine W_callsN 10 rfl (w10m hs ha I (by omega) e1) rfl ?_; rintro _ hX ⟨rfl, rv2, b2, c2, f1, f2, f3, I2, ha2, hs⟩; refine W_norm rfl ?_)
                | (refine W_callsN 24 rfl (w24 (L := b.L) (hs.front 2 rfl) hl (by omega) (by omega) (by omega)) rfl ?_; rintro _ hX ⟨rfl, R2, lv2, hle, hl2, hs⟩; (try simp only [List.eraseIdx_cons_succ, List.eraseIdx_cons_zero, List.eraseIdx_zero, List.tail_cons] at hs); refine W_norm rfl ?_)
              )
              | (refine K_index ?_; first
                | (refine W_indexR rfl rfl (by assumption) rfl ⟨(by first | omega | (simp only [List.length_set, List.length_append, List.length_take, List.length_drop, List.length_replicate, List.length_cons, List.length_nil, decs_length, List.length_map]; omega)), (by first | omega | (simp only [List.length_set, List.length_append, List.length_take, List.length_drop, List.length_replicate, List.length_cons, List.length_nil, decs_length, List.length_map]; omega))⟩ ?_; intro _ _ _; refine W_norm rfl ?_)
              )
              | (refine K_load ?_; first
                | (refine W_loadR hs rfl (by assumption) rfl ?_; refine W_norm rfl ?_)
              )
            )
            | (refine K_code ?_; first
              | (refine W_cond rfl (fun hc => ?_) (fun hc => ?_) <;> (try rw [hc]) <;> (try simp only [decide_eq_true_eq, decide_eq_false_iff_not, beq_iff_eq, beq_eq_false_iff_ne, bne_iff_ne, bne_eq_false_iff_eq, Bool.not_eq_true', Bool.not_eq_false', Int.not_lt, Int.not_le, ne_eq, reduceCtorEq, not_true_eq_false, not_false_eq_true, Decidable.not_not] at hc) <;> (try (exfalso; omega)) <;> (try refine W_norm rfl ?_))
              | refine W_skip ?_
              | refine W_draws ?_
            )
            | refine W_dstep rfl ?_
            | refine ⟨rfl, fun rc hrec => ?_⟩
            | (refine W_dnilS (by simp only [List.reverse_cons, List.reverse_nil, List.nil_append, List.cons_append]; rfl) (by repeat' first | exact CL_nil _ _ | refine CL_skip rfl ?_ | refine CL_load (by assumption) rfl (by first | exact trivial | (repeat' first | exact trivial | refine ⟨⟨_, rfl, (by refine (congrArg (fun x => Heap.get x _) (RecIs.hh (by assumption))).trans ?_; first | rfl | exact PtR.same_get (by assumption) (by assumption) (by assumption) | exact Sep.same_get (by assumption) (by assumption) 0 0 rfl rfl | exact Sep.same_get (by assumption) (by assumption) 0 1 rfl rfl | exact Sep.same_get (by assumption) (by assumption) 0 2 rfl rfl | exact Sep.same_get (by assumption) (by assumption) 1 0 rfl rfl | exact Sep.same_get (by assumption) (by assumption) 1 1 rfl rfl | exact Sep.same_get (by assumption) (by assumption) 1 2 rfl rfl | exact Sep.same_get (by assumption) (by assumption) 2 0 rfl rfl | exact Sep.same_get (by assumption) (by assumption) 2 1 rfl rfl | exact Sep.same_get (by assumption) (by assumption) 2 2 rfl rfl)⟩, ?_⟩)) (by first | exact trivial | (repeat' first | exact trivial | refine ⟨⟨_, rfl, (by refine (congrArg (fun x => Heap.get x _) (RecIs.hh' (by assumption))).trans ?_; first | rfl | exact PtR.same_get (by assumption) (by assumption) (by assumption) | exact Sep.same_get (by assumption) (by assumption) 0 0 rfl rfl | exact Sep.same_get (by assumption) (by assumption) 0 1 rfl rfl | exact Sep.same_get (by assumption) (by assumption) 0 2 rfl rfl | exact Sep.same_get (by assumption) (by assumption) 1 0 rfl rfl | exact Sep.same_get (by assumption) (by assumption) 1 1 rfl rfl | exact Sep.same_get (by assumption) (by assumption) 1 2 rfl rfl | exact Sep.same_get (by assumption) (by assumption) 2 0 rfl rfl | exact Sep.same_get (by assumption) (by assumption) 2 1 rfl rfl | exact Sep.same_get (by assumption) (by assumption) 2 2 rfl rfl)⟩, ?_⟩)) ?_) ?_)
            | refine seqK_n ?_
            | refine midK_n ?_)
          have hpg := putG_le2 (m := m) (L := b.L) hg0
          rw [← f2] at hl2
          rw [← f3] at hs hpg
          exact ⟨_, ⟨R2, rv2, b2, c2, lv2, rfl, hA1.mono hle, hl2, f1, by push_cast; omega, I2, ha2, hs.reord (fun a => by simp only [List.flatten_cons, List.flatten_nil, List.count_append, List.count_nil, hpOf_append, hpOf_cons, hpOf_nil, List.append_nil, List.eraseIdx_cons_succ, List.eraseIdx_zero, List.tail_cons] <;> omega)⟩, EnvB.of rfl⟩
        · rw [hav] at hc ⊢
          refine W_loopB [6, 11, 12, 13, 14, 15, 80, 81, 82, 83, 84, 85, 86, 87, 88, 89, 90, 91, 92, 93, 94, 95, 96, 97, 98, 99, 100, 101, 102, 103, 104, 105, 106, 107, 108, 109, 110] [0, 1, 2, 3, 4, 5, 6, 7, 8, 9, 10, 11, 12, 13, 14, 15, 16, 17, 18, 19, 20, 21, 22, 23, 24, 25, 26, 27, 28, 29, 30, 31, 32, 33, 34, 35, 36, 37, 38, 39, 40, 41, 42, 43, 44, 45, 46, 47, 48, 49, 50, 51, 52, 53, 54, 55, 56, 57, 58, 59, 60, 61, 62, 63, 64, 65, 66, 67, 68, 69, 70, 71, 72, 73, 74, 75, 76, 77, 78, 79, 80, 81, 82, 83, 84, 85, 86, 87, 88, 89, 90, 91, 92, 93, 94, 95, 96, 97, 98, 99, 100, 101, 102, 103, 104, 105, 106, 107, 108, 109, 110, 111, 112, 113, 114, 115, 116, 117, 118, 119, 120, 121, 122, 123, 124, 125, 126, 127, 128, 129, 130, 131, 132, 133, 134, 135, 136, 137, 138, 139, 140, 141, 142, 143, 144, 145, 146, 147, 148, 149, 150, 151, 152, 153, 154, 155, 156, 157, 158, 159, 160, 161, 162, 163, 164, 165, 166, 167, 168, 169, 170, 171, 172, 173, 174, 175, 176, 177, 178, 179, 180, 181, 182, 183, 184, 185, 186, 187, 188, 189, 190, 191, 192, 193, 194, 195, 196, 197, 198, 199, 200, 201, 202, 203, 204, 205, 206, 207, 208, 209, 210, 211, 212, 213, 214] (fun n' sl h' => ∃ (i : Int) (rv2 : SV) (b2 : Bk) (c2 : Hp) (lv2 : SV), sl = [(11, .sc (.int .i64 i))] ∧ n' = (0 - i).toNat ∧ (a ≤ i ∧ i ≤ 0) ∧ SlR intE R lv2 b2.L ∧ b2.max = m ∧ b2.g ≤ ((k + 1 : Nat) : Int) ∧ BkI b2 ∧ AccS intE 3 rv2 b2.r c2 ∧ Sep R [bkO id rv2 b2, c2, dcO id2 lv2 m b2.g] h') ?_ ?_
          · refine ⟨_, _, ⟨a, rv, b, c, lv, rfl, rfl, ⟨Int.le_refl _, by omega⟩, hl, e1, (by push_cast; omega), I, ha, hs⟩, EnvB.of rfl⟩
          clear hs I e2 e1 ha hl hLl hrl hg0
          rintro _ _ us _ h2 ⟨i, rv2, b2, c2, lv2, rfl, rfl, hi, hl2, e1, e2, I2, ha2, hs⟩ he
          refine W_spell he rfl ?_
          clear he
          have hLl := I2.ll
          have hrl := I2.rl
          unfold m5_l16
          repeat' (first
            | (refine K_ops ?_; first
              | refine W_fastB rfl ?_
              | refine W_nil ?_
              | (refine K_guard ?_; first
                | refine W_guard_on rfl ?_
                | refine W_guard_off rfl rfl (W_norm rfl ?_)
                | (refine W_guardT rfl (fun hc => ?_) (fun hc => ?_) <;> (try rw [hc]) <;> (try simp only [decide_eq_true_eq, decide_eq_false_iff_not, beq_iff_eq, beq_eq_false_iff_ne, bne_iff_ne, bne_eq_false_iff_eq, Bool.not_eq_true', Bool.not_eq_false', Int.not_lt, Int.not_le, ne_eq, reduceCtorEq, not_true_eq_false, not_false_eq_true, Decidable.not_not] at hc) <;> (try (exfalso; omega)) <;> (try refine W_norm rfl ?_))
                | (refine W_guardF rfl (fun hc => ?_) (fun hc => ?_) <;> (try rw [hc]) <;> (try simp only [decide_eq_true_eq, decide_eq_false_iff_not, beq_iff_eq, beq_eq_false_iff_ne, bne_iff_ne, bne_eq_false_iff_eq, Bool.not_eq_true', Bool.not_eq_false', Int.not_lt, Int.not_le, ne_eq, reduceCtorEq, not_true_eq_false, not_false_eq_true, Decidable.not_not] at hc) <;> (try (exfalso; omega)) <;> (try refine W_norm rfl ?_))
              )
              | (refine K_call ?_; first
                | (refine W_callsN 13 rfl (w13 hs ha2 I2) rfl ?_; rintro _ hX ⟨rfl, b3, c3, f1, f2, f3, I3, ha3, hs⟩; refine W_norm rfl ?_)
                | (refine W_callsN 25 rfl (w25 (L := b2.L) (hs.front 2 rfl) hl2 (by omega)) rfl ?_; rintro _ hX ⟨rfl, lv3, hl3, hs⟩; (try simp only [List.eraseIdx_cons_succ, List.eraseIdx_cons_zero, List.eraseIdx_zero, List.tail_cons] at hs); refine W_norm rfl ?_)
              )
              | (refine K_bin ?_; first
                | (refine W_add rfl rfl (IntWalk.i64_in _ (by first | omega | (simp only [List.length_set, List.length_append, List.length_take, List.length_drop, List.length_replicate, List.length_cons, List.length_nil, decs_length, List.length_map]; omega))) ?_; refine W_norm rfl ?_)
              )
              | (refine K_pick ?_; first
                | refine W_pick_t rfl rfl (W_norm rfl ?_)
                | refine W_pick_f rfl rfl (W_norm rfl ?_)
              )
              | (refine K_index ?_; first
                | (refine W_indexR rfl rfl (by assumption) rfl ⟨(by first | omega | (simp only [List.length_set, List.length_append, List.length_take, List.length_drop, List.length_replicate, List.length_cons, List.length_nil, decs_length, List.length_map]; omega)), (by first | omega | (simp only [List.length_set, List.length_append, List.length_take, List.length_drop, List.length_replicate, List.length_cons, List.length_nil, decs_length, List.length_map]; omega))⟩ ?_; intro _ _ _; refine W_norm rfl ?_)
              )
              | (refine K_load ?_; first
                | (refine W_loadR hs rfl (by assumption) rfl ?_; refine W_norm rfl ?_)
              )
            )
            | (refine K_code ?_; first
              | refine W_seq ?_
              | refine W_ops ?_
              | refine W_cond_f rfl ?_
              | (refine W_cond rfl (fun hc => ?_) (fun hc => ?_) <;> (try rw [hc]) <;> (try simp only [decide_eq_true_eq, decide_eq_false_iff_not, beq_iff_eq, beq_eq_false_iff_ne, bne_iff_ne, bne_eq_false_iff_eq, Bool.not_eq_true', Bool.not_eq_false', Int.not_lt, Int.not_le, ne_eq, reduceCtorEq, not_true_eq_false, not_false_eq_true, Decidable.not_not] at hc) <;> (try (exfalso; omega)) <;> (try refine W_norm rfl ?_))
              | refine W_skip ?_
              | refine W_exit ?_
              | refine W_block ?_
            )
            | refine seqK_n ?_
            | refine seqK_x ?_
            | refine blockK_n ?_
            | refine blockK_e ?_
            | refine invK_x ?_
            | refine invK_n ?_
            | refine midK_n ?_)
          all_goals first
            | exact ⟨_, ⟨R, rv2, b2, c2, lv2, rfl, hA1, hl2, e1, e2, I2, ha2, hs⟩, EnvB.of rfl⟩
            | skip
          rw [← f2] at hl3
          rw [← f3] at hs
          refine ⟨_, ?_, _, ⟨i + 1, rv2, b3, c3, lv3, rfl, rfl, ?_, hl3, f1.trans e1, (by rw [f3]; exact e2), I3, ha3, hs.reord (fun a => by simp only [List.flatten_cons, List.flatten_nil, List.count_append, List.count_nil, hpOf_append, hpOf_cons, hpOf_nil, List.append_nil, List.eraseIdx_cons_succ, List.eraseIdx_zero, List.tail_cons] <;> omega)⟩, EnvB.of rfl⟩
          · omega
          · omega
        clear hs I e2 e1 ha hl hLl hrl hg0
        rintro _ us _ h2 ⟨R2, rv2, b2, c2, lv2, rfl, hA2, hl2, e1, e2, I2, ha2, hs⟩ he
        refine W_spell he rfl ?_
        clear he
        have hLl := I2.ll
        have hrl := I2.rl
        have hg0 := I2.g0
        have hln2 := hl2.ln
        by_cases hin : 0 ≤ n ∧ n < b2.L.length
        · repeat' (first
            | (refine K_ops ?_; first
              | refine W_fastB rfl ?_
              | refine W_nil ?_
              | (refine K_guard ?_; first
                | refine W_guard_on rfl ?_
                | (refine W_guardT rfl (fun hc => ?_) (fun hc => ?_) <;> (try rw [hc]) <;> (try simp only [decide_eq_true_eq, decide_eq_false_iff_not, beq_iff_eq, beq_eq_false_iff_ne, bne_iff_ne, bne_eq_false_iff_eq, Bool.not_eq_true', Bool.not_eq_false', Int.not_lt, Int.not_le, ne_eq, reduceCtorEq, not_true_eq_false, not_false_eq_true, Decidable.not_not] at hc) <;> (try (exfalso; omega)) <;> (try refine W_norm rfl ?_))
              )
              | (refine K_call ?_; first
                | (refine W_callsN 26 rfl (w26y hs ha2 I2 hin) rfl ?_; rintro _ hX ⟨rfl, rfl⟩; refine W_norm rfl ?_)
              )
              | (refine W_lenL rfl (by first | assumption | exact SlR.ln (by assumption) | exact AccS.ln (by assumption) | exact OwnS.ln (by assumption) | exact VwO.ln (by assumption) | exact OwnP.ln (by assumption) | exact Len.sl) ?_; refine W_norm rfl ?_)
              | (refine K_pick ?_; first
                | refine W_pick_t rfl rfl (W_norm rfl ?_)
              )
              | (refine K_load ?_; first
                | (refine W_loadC hs 2 rfl rfl rfl ?_; refine W_norm rfl ?_)
              )
            )
            | (refine K_code ?_; first
              | refine W_seq ?_
              | refine W_ops ?_
            )
            | refine seqK_n ?_)
          rw [decide_eq_true hin.2]
          refine (w5_y (b := b2) (c := c2) (id := id) (id2 := id2) ⟨rfl, rfl, rfl, rfl, rfl, rfl, rfl, trivial⟩ hs ha2 I2 hl2 hn hin).mono ?_
          clear hs
          rintro _ _ hX ⟨rfl, _, ⟨rfl, hs⟩, us4, he⟩
          refine seqK_n ?_
          refine W_spell he rfl ?_
          clear he
          repeat' (first
            | (refine K_ops ?_; first
              | refine W_fastB rfl ?_
              | refine W_nil ?_
              | (refine K_bin ?_; first
                | (refine W_add rfl rfl (IntWalk.i64_in _ (by first | omega | (simp only [List.length_set, List.length_append, List.length_take, List.length_drop, List.length_replicate, List.length_cons, List.length_nil, decs_length, List.length_map]; omega))) ?_; refine W_norm rfl ?_)
              )
            )
            | (refine K_code ?_; first
              | refine W_ops ?_
              | refine W_cond_f rfl ?_
              | refine W_skip ?_
            )
            | refine seqK_n ?_
            | refine blockK_n ?_
            | refine invK_n ?_)
          refine ⟨_, ?_, _, ⟨k + 1, R2, rv2, b2, c2, lv2, rfl, rfl, ?_, hA2, hl2, e1, e2, I2, ha2, hs⟩, EnvB.of rfl⟩
          · omega
          · omega
        · repeat' (first
            | (refine K_ops ?_; first
              | refine W_fastB rfl ?_
              | refine W_nil ?_
              | (refine K_guard ?_; first
                | refine W_guard_on rfl ?_
                | refine W_guard_off rfl rfl (W_norm rfl ?_)
                | (refine W_guardT rfl (fun hc => ?_) (fun hc => ?_) <;> (try rw [hc]) <;> (try simp only [decide_eq_true_eq, decide_eq_false_iff_not, beq_iff_eq, beq_eq_false_iff_ne, bne_iff_ne, bne_eq_false_iff_eq, Bool.not_eq_true', Bool.not_eq_false', Int.not_lt, Int.not_le, ne_eq, reduceCtorEq, not_true_eq_false, not_false_eq_true, Decidable.not_not] at hc) <;> (try (exfalso; omega)) <;> (try refine W_norm rfl ?_))
              )
              | (refine K_call ?_; first
                | (refine W_callsN 26 rfl (w26z hs ha2 I2 hin) rfl ?_; rintro _ hX ⟨rfl, rfl⟩; refine W_norm rfl ?_)
              )
              | (refine W_lenL rfl (by first | assumption | exact SlR.ln (by assumption) | exact AccS.ln (by assumption) | exact OwnS.ln (by assumption) | exact VwO.ln (by assumption) | exact OwnP.ln (by assumption) | exact Len.sl) ?_; refine W_norm rfl ?_)
              | (refine K_pick ?_; first
                | refine W_pick_t rfl rfl (W_norm rfl ?_)
                | refine W_pick_f rfl rfl (W_norm rfl ?_)
              )
              | (refine K_load ?_; first
                | (refine W_loadC hs 2 rfl rfl rfl ?_; refine W_norm rfl ?_)
              )
            )
            | (refine K_code ?_; first
              | ((refine W_seq ?_; refine (w5_z (b := b2) (c := c2) (id := id) (id2 := id2) ⟨rfl, rfl, rfl, rfl, rfl, rfl, rfl, trivial⟩ hs ha2 I2 hl2 hn).mono ?_))
              | refine W_seq ?_
              | refine W_ops ?_
            )
            | refine seqK_n ?_)
          · rw [decide_eq_false (show ¬ n < (b2.L.length : Int) by omega)]
            refine (w5_z (b := b2) (c := c2) (id := id) (id2 := id2) ⟨rfl, rfl, rfl, rfl, rfl, rfl, rfl, trivial⟩ hs ha2 I2 hl2 hn).mono ?_
            clear hs
            rintro _ _ hX ⟨rfl, _, ⟨rfl, hs⟩, us4, he⟩
            refine seqK_n ?_
            refine W_spell he rfl ?_
            clear he
            repeat' (first
              | (refine K_ops ?_; first
                | refine W_fastB rfl ?_
                | refine W_nil ?_
                | (refine K_bin ?_; first
                  | (refine W_add rfl rfl (IntWalk.i64_in _ (by first | omega | (simp only [List.length_set, List.length_append, List.length_take, List.length_drop, List.length_replicate, List.length_cons, List.length_nil, decs_length, List.length_map]; omega))) ?_; refine W_norm rfl ?_)
                )
              )
              | (refine K_code ?_; first
                | refine W_ops ?_
                | refine W_cond_f rfl ?_
                | refine W_skip ?_
              )
              | refine seqK_n ?_
              | refine blockK_n ?_
              | refine invK_n ?_)
            refine ⟨_, ?_, _, ⟨k + 1, R2, rv2, b2, c2, lv2, rfl, rfl, ?_, hA2, hl2, e1, e2, I2, ha2, hs⟩, EnvB.of rfl⟩
            · omega
            · omega
          · skip
            clear hs
            rintro _ _ hX ⟨rfl, _, ⟨rfl, hs⟩, us4, he⟩
            refine seqK_n ?_
            refine W_spell he rfl ?_
            clear he
            repeat' (first
              | (refine K_ops ?_; first
                | refine W_fastB rfl ?_
                | refine W_nil ?_
                | (refine K_bin ?_; first
                  | (refine W_add rfl rfl (IntWalk.i64_in _ (by first | omega | (simp only [List.length_set, List.length_append, List.length_take, List.length_drop, List.length_replicate, List.length_cons, List.length_nil, decs_length, List.length_map]; omega))) ?_; refine W_norm rfl ?_)
                )
              )
              | (refine K_code ?_; first
                | refine W_ops ?_
                | refine W_cond_f rfl ?_
                | refine W_skip ?_
              )
              | refine seqK_n ?_
              | refine blockK_n ?_
              | refine invK_n ?_)
            refine ⟨_, ?_, _, ⟨k + 1, R2, rv2, b2, c2, lv2, rfl, rfl, ?_, hA2, hl2, e1, e2, I2, ha2, hs⟩, EnvB.of rfl⟩
            · omega
            · omega
      · obtain rfl : k = A.length := by omega
        repeat' (first
          | (refine K_ops ?_; first
            | refine W_fastB rfl ?_
            | refine W_nil ?_
            | (refine K_call ?_; first
              | (refine W_callsN 29 rfl (w29 hs ha I) rfl ?_; rintro _ hX ⟨rfl, b3, c3, f1, f2, f3, I3, ha3, hs⟩; refine W_norm rfl ?_)
            )
            | (refine W_lenL rfl (by first | assumption | exact SlR.ln (by assumption) | exact AccS.ln (by assumption) | exact OwnS.ln (by assumption) | exact VwO.ln (by assumption) | exact OwnP.ln (by assumption) | exact Len.sl) ?_; refine W_norm rfl ?_)
          )
          | (refine K_code ?_; first
            | refine W_seq ?_
            | refine W_ops ?_
            | (refine W_cond rfl (fun hc => ?_) (fun hc => ?_) <;> (try rw [hc]) <;> (try simp only [decide_eq_true_eq, decide_eq_false_iff_not, beq_iff_eq, beq_eq_false_iff_ne, bne_iff_ne, bne_eq_false_iff_eq, Bool.not_eq_true', Bool.not_eq_false', Int.not_lt, Int.not_le, ne_eq, reduceCtorEq, not_true_eq_false, not_false_eq_true, Decidable.not_not] at hc) <;> (try (exfalso; omega)) <;> (try refine W_norm rfl ?_))
            | refine W_exit ?_
          )
          | refine seqK_n ?_
          | refine seqK_x ?_
          | refine blockK_e ?_
          | refine invK_x ?_)
        rw [← f3] at hs
        refine (w5_f (b := b3) (c := c3) (id := id) (id2 := id2) ⟨rfl, rfl, rfl, trivial⟩ hs ha3 I3 f2).mono ?_
        rintro _ _ hX ⟨rfl, _, ⟨rfl, _⟩, us4, he⟩
        refine seqK_n ?_
        refine W_spell he rfl ?_
        repeat' (first
          | (refine K_code ?_; first
            | refine W_ret ?_
          )
          | (refine fnK_r rfl ?_; try dsimp only [gd_z, gd_s]))
        all_goals exact ⟨_, rfl, rfl⟩
    · repeat' (first
        | (refine K_ops ?_; first
          | refine W_fastB rfl ?_
          | refine W_nil ?_
          | (refine K_guard ?_; first
            | refine W_guard_on rfl ?_
            | refine W_guard_off rfl rfl (W_norm rfl ?_)
            | (refine W_guardF rfl (fun hc => ?_) (fun hc => ?_) <;> (try rw [hc]) <;> (try simp only [decide_eq_true_eq, decide_eq_false_iff_not, beq_iff_eq, beq_eq_false_iff_ne, bne_iff_ne, bne_eq_false_iff_eq, Bool.not_eq_true', Bool.not_eq_false', Int.not_lt, Int.not_le, ne_eq, reduceCtorEq, not_true_eq_false, not_false_eq_true, Decidable.not_not] at hc) <;> (try (exfalso; omega)) <;> (try refine W_norm rfl ?_))
          )
          | (refine K_call ?_; first
            | (refine W_callsN 9 rfl (w9n hm hmr) rfl ?_; rintro _ hX ⟨rfl, rfl⟩; refine W_norm rfl ?_)
            | (refine W_callsN 8 rfl (w8g _) rfl ?_; rintro _ hX ⟨rfl, rfl⟩; refine W_norm rfl ?_)
          )
          | (refine W_lenL rfl (by first | assumption | exact SlR.ln (by assumption) | exact AccS.ln (by assumption) | exact OwnS.ln (by assumption) | exact VwO.ln (by assumption) | exact OwnP.ln (by assumption) | exact Len.sl) ?_; refine W_norm rfl ?_)
          | (refine K_bin ?_; first
            | (refine W_nil_ptr_t rfl rfl rfl ?_; refine W_norm rfl ?_)
          )
          | (refine K_pick ?_; first
            | refine W_pick_t rfl rfl (W_norm rfl ?_)
            | refine W_pick_f rfl rfl (W_norm rfl ?_)
          )
        )
        | (refine K_code ?_; first
          | refine W_seq ?_
          | refine W_ops ?_
          | refine W_cond_t rfl ?_
          | (refine W_cond rfl (fun hc => ?_) (fun hc => ?_) <;> (try rw [hc]) <;> (try simp only [decide_eq_true_eq, decide_eq_false_iff_not, beq_iff_eq, beq_eq_false_iff_ne, bne_iff_ne, bne_eq_false_iff_eq, Bool.not_eq_true', Bool.not_eq_false', Int.not_lt, Int.not_le, ne_eq, reduceCtorEq, not_true_eq_false, not_false_eq_true, Decidable.not_not] at hc) <;> (try (exfalso; omega)) <;> (try refine W_norm rfl ?_))
          | refine W_skip ?_
          | refine W_ret ?_
        )
        | refine seqK_n ?_
        | refine seqK_r ?_
        | (refine fnK_r rfl ?_; try dsimp only [gd_z, gd_s]))
      all_goals exact ⟨_, rfl, rfl⟩
  · repeat' (first
      | (refine K_ops ?_; first
        | refine W_fastB rfl ?_
        | refine W_nil ?_
        | (refine K_call ?_; first
          | (refine W_callsN 8 rfl (w8g _) rfl ?_; rintro _ hX ⟨rfl, rfl⟩; refine W_norm rfl ?_)
        )
        | (refine W_lenL rfl (by first | assumption | exact SlR.ln (by assumption) | exact AccS.ln (by assumption) | exact OwnS.ln (by assumption) | exact VwO.ln (by assumption) | exact OwnP.ln (by assumption) | exact Len.sl) ?_; refine W_norm rfl ?_)
      )
      | (refine K_code ?_; first
        | refine W_seq ?_
        | refine W_ops ?_
        | (refine W_cond rfl (fun hc => ?_) (fun hc => ?_) <;> (try rw [hc]) <;> (try simp only [decide_eq_true_eq, decide_eq_false_iff_not, beq_iff_eq, beq_eq_false_iff_ne, bne_iff_ne, bne_eq_false_iff_eq, Bool.not_eq_true', Bool.not_eq_false', Int.not_lt, Int.not_le, ne_eq, reduceCtorEq, not_true_eq_false, not_false_eq_true, Decidable.not_not] at hc) <;> (try (exfalso; omega)) <;> (try refine W_norm rfl ?_))
        | refine W_ret ?_
      )
      | refine seqK_n ?_
      | refine seqK_r ?_
      | (refine fnK_r rfl ?_; try dsimp only [gd_z, gd_s]))
    all_goals exact ⟨_, rfl, rfl⟩
theorem walk_backPlays (H : Heap) (avs : List AV) (hwf : H.l.length = H.n) (hs : Sub (HL Try.prog.globals.size jxLs) H) (ho : OpenA H [(false, [.int .i64]), (false, [.slice 3 1 [.int .i64]]), (false, [.int .i64])] avs) : W DD (.call 5 avs H) (fun _ vs _ => vs = [.sc (.bool true)]) := by
  simp only [OpenA] at ho
  obtain ⟨_, _, _, hk, rfl, o1, _, _, _, hk2, rfl, o2, _, _, _, hk3, rfl, o3, rfl⟩ := ho
  cases hk; cases hk2; cases hk3
  simp only [OpenS] at o1 o3
  obtain ⟨m, rfl, e1⟩ := o1
  obtain ⟨A, hA, h1, h2⟩ := openIntsL o2
  obtain ⟨n, rfl, e3⟩ := o3
  exact (w5 hA h1 h2 e1 e3).mono fun _ _ _ ⟨v, hv, h3⟩ => by rw [hv, h3]
end Go.Proofs.Ytjadhoelknmnkaa
