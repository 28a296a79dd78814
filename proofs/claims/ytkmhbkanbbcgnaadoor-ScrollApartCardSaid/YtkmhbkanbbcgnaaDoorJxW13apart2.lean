/- The law ScrollApart: the plain machine answers true, second part. -/
import Derived.Test.YtkmhbkanbbcgnaaDoorJxW13apart
set_option linter.unusedSimpArgs false
set_option linter.unusedVariables false
set_option maxHeartbeats 4000000
set_option maxRecDepth 100000
namespace Go.Proofs.YtkmhbkanbbcgnaaDoor
open Go Go.Jx

structure Res where
  v : SV
  c : Hp
  H : List (Hd Cell)
def resOf (X : List Res) : Hp := X.flatMap fun x => x.c ++ hpOf x.H
theorem resOf_cons (x : Res) (X : List Res) : resOf (x :: X) = x.c ++ hpOf x.H ++ resOf X := rfl
def fine (x : Res) : Prop := NsO cellE 40 38 x.v x.H x.c ∧ x.H.length ≤ 100000 ∧ ∀ r ∈ x.H, r.L.length ≤ 100000 ∧ ∀ y ∈ r.L, y.w ≠ 99

/-- The six answers, one after another: looked at, and spoilt. -/
theorem apart_six {a0 a7 a133 : SV} {X : List Res} {R : Ro} {e : List AV} {h : Heap} (hX : X.length = 6) (h133 : SlR svEl R a133 (X.map Res.v)) (hn : ∀ x ∈ X, fine x) (hs : Sep R [resOf X] h)
    (he : EnvIs 195 [(0, .sc a0), (7, .sc a7), (133, .sc a133), (134, .sc (.int .i64 6)), (135, .sc (.int .i64 0))] e) :
    W DD (.code (.block 6 (.loop m4_l24)) e h) (fun x e' h' => x = .normal ∧ Sep R [] h' ∧ EnvIs 195 [(0, .sc a0), (7, .sc a7)] e') := by
  obtain ⟨us, rfl⟩ := he.list
  repeat' (first
    | (refine K_code ?_; first
      | refine W_block ?_
    ))
  refine W_loopB [0, 1, 2, 3, 4, 5, 6, 7, 8, 9, 10, 11, 12, 13, 14, 15, 16, 17, 18, 19, 20, 21, 22, 23, 24, 25, 26, 27, 28, 29, 30, 31, 32, 33, 34, 35, 36, 37, 38, 39, 40, 41, 42, 43, 44, 45, 46, 47, 48, 49, 50, 51, 52, 53, 54, 55, 56, 57, 58, 59, 60, 61, 62, 63, 64, 65, 66, 67, 68, 69, 70, 71, 72, 73, 74, 75, 76, 77, 78, 79, 80, 81, 82, 83, 84, 85, 86, 87, 88, 89, 90, 91, 92, 93, 94, 95, 96, 97, 98, 99, 100, 101, 102, 103, 104, 105, 106, 107, 108, 109, 110, 111, 112, 113, 114, 115, 116, 117, 118, 119, 120, 121, 122, 123, 124, 125, 126, 127, 128, 129, 130, 131, 132, 133, 134, 135, 136, 137, 138, 139, 140, 141, 142, 143, 144, 145, 146, 147, 148, 149, 150, 151, 152, 153, 154, 155, 156, 157, 158, 159, 160, 161, 162, 163, 164, 165, 166, 167, 168, 169, 170, 171, 172, 173, 174, 175, 176, 177, 178, 179, 180, 181, 182, 183, 184, 185, 186, 187, 188, 189, 190, 191, 192, 193, 194] [0, 1, 2, 3, 4, 5, 6, 7, 8, 9, 10, 11, 12, 13, 14, 15, 16, 17, 18, 19, 20, 21, 22, 23, 24, 25, 26, 27, 28, 29, 30, 31, 32, 33, 34, 35, 36, 37, 38, 39, 40, 41, 42, 43, 44, 45, 46, 47, 48, 49, 50, 51, 52, 53, 54, 55, 56, 57, 58, 59, 60, 61, 62, 63, 64, 65, 66, 67, 68, 69, 70, 71, 72, 73, 74, 75, 76, 77, 78, 79, 80, 81, 82, 83, 84, 85, 86, 87, 88, 89, 90, 91, 92, 93, 94, 95, 96, 97, 98, 99, 100, 101, 102, 103, 104, 105, 106, 107, 108, 109, 110, 111, 112, 113, 114, 115, 116, 117, 118, 119, 120, 121, 122, 123, 124, 125, 126, 127, 128, 129, 130, 131, 132, 133, 134, 135, 136, 137, 138, 139, 140, 141, 142, 143, 144, 145, 146, 147, 148, 149, 150, 151, 152, 153, 154, 155, 156, 157, 158, 159, 160, 161, 162, 163, 164, 165, 166, 167, 168, 169, 170, 171, 172, 173, 174, 175, 176, 177, 178, 179, 180, 181, 182, 183, 184, 185, 186, 187, 188, 189, 190, 191, 192, 193, 194] (fun n' sl h' => ∃ (j : Nat), sl = [(0, .sc a0), (7, .sc a7), (133, .sc a133), (134, .sc (.int .i64 6)), (135, .sc (.int .i64 (j : Int)))] ∧ n' = 6 - j ∧ j ≤ 6 ∧ Sep R [resOf (X.drop j)] h') ?_ ?_
  · refine ⟨_, _, ⟨0, rfl, rfl, Nat.zero_le _, hs⟩, EnvB.of rfl⟩
  clear hs
  rintro _ _ us _ h2 ⟨j, rfl, rfl, hj, hs⟩ he
  refine W_spell he rfl ?_
  clear he
  unfold m4_l24
  by_cases hlt : j < 6
  · have hlX : j < X.length := by omega
    obtain ⟨x, hx⟩ : ∃ x, X[j]? = some x := ⟨_, List.getElem?_eq_getElem hlX⟩
    obtain ⟨n1, n2, n3⟩ := hn x (List.mem_of_getElem? hx)
    have hv : (X.map Res.v).getD j .nils = x.v := by
      rw [List.getD_eq_getElem?_getD, List.getElem?_map, hx]; rfl
    have hdr : X.drop j = x :: X.drop (j + 1) := by
      rw [List.drop_eq_getElem_cons hlX]; congr 1
      rw [List.getElem?_eq_getElem hlX] at hx; cases hx; rfl
    rw [hdr, resOf_cons] at hs
    replace hs : Sep R (x.c :: hpOf x.H :: [resOf (X.drop (j + 1))]) h2 := hs.reord (fun a => by simp only [List.flatten_cons, List.flatten_nil, List.count_append, List.count_nil, hpOf_append, hpOf_cons, hpOf_nil, List.append_nil, List.eraseIdx_cons_succ, List.eraseIdx_zero, List.tail_cons] <;> omega)
    rw [← hv] at n1
    have n4 := n1.now hs (by simp) (by simp)
    have n5 : ∀ g ∈ pairs x.H, g.2.length ≤ 100000 ∧ ∀ y ∈ g.2, y.w ≠ 99 := by
      intro g hg
      obtain ⟨r, hr, rfl⟩ := List.mem_map.1 hg
      exact n3 r hr
    repeat' (first
      | (refine K_ops ?_; first
        | refine W_fastB rfl ?_
        | refine W_nil ?_
        | (refine K_index ?_; first
          | (refine W_indexR rfl rfl (by assumption) rfl ⟨(by first | omega | (simp only [List.length_set, List.length_append, List.length_take, List.length_drop, List.length_replicate, List.length_cons, List.length_nil, decs_length, List.length_map]; omega)), (by first | omega | (simp only [List.length_set, List.length_append, List.length_take, List.length_drop, List.length_replicate, List.length_cons, List.length_nil, decs_length, List.length_map]; omega))⟩ ?_; intro _ _ _; refine W_norm rfl ?_)
        )
        | (refine K_load ?_; first
          | (refine W_loadR hs rfl (by assumption) rfl ?_; refine W_norm rfl ?_)
        )
      )
      | (refine K_code ?_; first
        | (refine ((apart_check (v := (X.map Res.v).getD j .nils) n4 (by rw [pairs_length]; exact n2) (fun g hg => (n5 g hg).1) (fun g hg => (n5 g hg).2) ⟨rfl, rfl, rfl, rfl, rfl, rfl, rfl, trivial⟩).mono ?_))
        | refine W_seq ?_
        | refine W_ops ?_
        | (refine W_cond rfl (fun hc => ?_) (fun hc => ?_) <;> (try rw [hc]) <;> (try simp only [decide_eq_true_eq, decide_eq_false_iff_not, beq_iff_eq, beq_eq_false_iff_ne, bne_iff_ne, bne_eq_false_iff_eq, Bool.not_eq_true', Bool.not_eq_false', Int.not_lt, Int.not_le, ne_eq, reduceCtorEq, not_true_eq_false, not_false_eq_true, Decidable.not_not] at hc) <;> (try (exfalso; omega)) <;> (try refine W_norm rfl ?_))
        | refine W_skip ?_
        | refine W_block ?_
      )
      | refine seqK_n ?_)
    rintro _ e2 h3 ⟨rfl, rfl, he2⟩
    refine seqK_n ?_
    refine (apart_spoil n1 hs n2 (fun r hr => (n3 r hr).1) he2).mono ?_
    rintro _ e3 h4 ⟨rfl, hs', he3⟩
    obtain ⟨us, rfl⟩ := he3.list
    refine blockK_n (seqK_n ?_)
    repeat' (first
      | (refine K_ops ?_; first
        | refine W_fastB rfl ?_
        | refine W_nil ?_
        | (refine K_bin ?_; first
          | (refine W_add rfl rfl (IntWalk.i64_in _ (by first | omega | (simp only [List.length_set, List.length_append, List.length_take, List.length_drop, List.length_replicate, List.length_cons, List.length_nil, decs_length, List.length_map]; omega))) ?_; refine W_norm rfl ?_)
        )
      )
      | (refine K_code ?_; first
        | refine W_ops ?_
      )
      | refine invK_n ?_)
    refine ⟨_, ?_, _, ⟨j + 1, rfl, rfl, ?_, hs'⟩, EnvB.of rfl⟩
    · omega
    · omega
  · repeat' (first
      | (refine K_ops ?_; first
        | refine W_fastB rfl ?_
        | refine W_nil ?_
      )
      | (refine K_code ?_; first
        | refine W_seq ?_
        | refine W_ops ?_
        | (refine W_cond rfl (fun hc => ?_) (fun hc => ?_) <;> (try rw [hc]) <;> (try simp only [decide_eq_true_eq, decide_eq_false_iff_not, beq_iff_eq, beq_eq_false_iff_ne, bne_iff_ne, bne_eq_false_iff_eq, Bool.not_eq_true', Bool.not_eq_false', Int.not_lt, Int.not_le, ne_eq, reduceCtorEq, not_true_eq_false, not_false_eq_true, Decidable.not_not] at hc) <;> (try (exfalso; omega)) <;> (try refine W_norm rfl ?_))
        | refine W_exit ?_
      )
      | refine seqK_n ?_
      | refine seqK_x ?_
      | refine blockK_e ?_
      | refine invK_x ?_)
    exact ⟨rfl, hs.drop 0, rfl, rfl, rfl, trivial⟩
end Go.Proofs.YtkmhbkanbbcgnaaDoor
