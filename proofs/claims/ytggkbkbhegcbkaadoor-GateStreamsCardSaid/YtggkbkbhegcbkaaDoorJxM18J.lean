import Derived.Test.YtggkbkbhegcbkaaDoorJxE18
import Derived.Test.YtggkbkbhegcbkaaDoorJxW9
import Derived.Test.YtggkbkbhegcbkaaDoorJxM18A
/- The document's readers of states and parameters, walked. -/
set_option linter.unusedSimpArgs false
set_option linter.unusedVariables false
set_option maxHeartbeats 1000000
set_option maxRecDepth 100000
namespace Go.Proofs.YtggkbkbhegcbkaaDoor
open Go Go.Jx

/-- A row of the table of states. -/
structure Rw where
  s : Int
  f : Int
  t : Int
  a : Int
  n : Int
def rwE : El Rw := ⟨5, fun r => [.int .i64 r.s, .int .i64 r.f, .int .i64 r.t, .int .i64 r.a, .int .i64 r.n], fun l => match l with | [.int _ a, .int _ b, .int _ c, .int _ d, .int _ e] => ⟨a, b, c, d, e⟩ | _ => ⟨0, 0, 0, 0, 0⟩, ⟨0, 0, 0, 0, 0⟩, fun _ => rfl, by decide, fun _ => rfl⟩
def rowsT : List Rw := [
  ⟨0, 0, 23, 2, 0⟩, ⟨0, 25, 25, 2, 0⟩, ⟨0, 28, 31, 2, 0⟩, ⟨0, 32, 126, 1, 0⟩, ⟨0, 127, 127, 0, 0⟩, ⟨0, 128, 255, 1, 0⟩, ⟨1, 0, 23, 2, 1⟩, ⟨1, 25, 25, 2, 1⟩,
  ⟨1, 28, 31, 2, 1⟩, ⟨1, 32, 47, 3, 2⟩, ⟨1, 48, 79, 5, 0⟩, ⟨1, 80, 80, 0, 7⟩, ⟨1, 81, 87, 5, 0⟩, ⟨1, 88, 88, 0, 13⟩, ⟨1, 89, 90, 5, 0⟩, ⟨1, 91, 91, 0, 3⟩,
  ⟨1, 92, 92, 5, 0⟩, ⟨1, 93, 93, 0, 12⟩, ⟨1, 94, 95, 0, 13⟩, ⟨1, 96, 126, 5, 0⟩, ⟨1, 127, 255, 0, 1⟩, ⟨2, 0, 23, 2, 2⟩, ⟨2, 25, 25, 2, 2⟩, ⟨2, 28, 31, 2, 2⟩,
  ⟨2, 32, 47, 3, 2⟩, ⟨2, 48, 126, 5, 0⟩, ⟨2, 127, 255, 0, 2⟩, ⟨3, 0, 23, 2, 3⟩, ⟨3, 25, 25, 2, 3⟩, ⟨3, 28, 31, 2, 3⟩, ⟨3, 32, 47, 3, 5⟩, ⟨3, 48, 59, 4, 4⟩,
  ⟨3, 60, 63, 3, 4⟩, ⟨3, 64, 126, 6, 0⟩, ⟨3, 127, 255, 0, 3⟩, ⟨4, 0, 23, 2, 4⟩, ⟨4, 25, 25, 2, 4⟩, ⟨4, 28, 31, 2, 4⟩, ⟨4, 32, 47, 3, 5⟩, ⟨4, 48, 59, 4, 4⟩,
  ⟨4, 60, 63, 0, 6⟩, ⟨4, 64, 126, 6, 0⟩, ⟨4, 127, 255, 0, 4⟩, ⟨5, 0, 23, 2, 5⟩, ⟨5, 25, 25, 2, 5⟩, ⟨5, 28, 31, 2, 5⟩, ⟨5, 32, 47, 3, 5⟩, ⟨5, 48, 63, 0, 6⟩,
  ⟨5, 64, 126, 6, 0⟩, ⟨5, 127, 255, 0, 5⟩, ⟨6, 0, 23, 2, 6⟩, ⟨6, 25, 25, 2, 6⟩, ⟨6, 28, 31, 2, 6⟩, ⟨6, 32, 63, 0, 6⟩, ⟨6, 64, 126, 0, 0⟩, ⟨6, 127, 255, 0, 6⟩,
  ⟨7, 0, 23, 0, 7⟩, ⟨7, 25, 25, 0, 7⟩, ⟨7, 28, 31, 0, 7⟩, ⟨7, 32, 47, 3, 9⟩, ⟨7, 48, 59, 4, 8⟩, ⟨7, 60, 63, 3, 8⟩, ⟨7, 64, 126, 7, 10⟩, ⟨7, 127, 255, 0, 7⟩,
  ⟨8, 0, 23, 0, 8⟩, ⟨8, 25, 25, 0, 8⟩, ⟨8, 28, 31, 0, 8⟩, ⟨8, 32, 47, 3, 9⟩, ⟨8, 48, 59, 4, 8⟩, ⟨8, 60, 63, 0, 11⟩, ⟨8, 64, 126, 7, 10⟩, ⟨8, 127, 255, 0, 8⟩,
  ⟨9, 0, 23, 0, 9⟩, ⟨9, 25, 25, 0, 9⟩, ⟨9, 28, 31, 0, 9⟩, ⟨9, 32, 47, 3, 9⟩, ⟨9, 48, 63, 0, 11⟩, ⟨9, 64, 126, 7, 10⟩, ⟨9, 127, 255, 0, 9⟩, ⟨10, 0, 23, 8, 10⟩,
  ⟨10, 25, 25, 8, 10⟩, ⟨10, 28, 126, 8, 10⟩, ⟨10, 127, 127, 0, 10⟩, ⟨10, 128, 255, 8, 10⟩, ⟨11, 0, 23, 0, 11⟩, ⟨11, 25, 25, 0, 11⟩, ⟨11, 28, 255, 0, 11⟩, ⟨12, 0, 6, 0, 12⟩,
  ⟨12, 7, 7, 0, 0⟩, ⟨12, 8, 23, 0, 12⟩, ⟨12, 25, 25, 0, 12⟩, ⟨12, 28, 31, 0, 12⟩, ⟨12, 32, 255, 8, 12⟩, ⟨13, 0, 23, 0, 13⟩, ⟨13, 25, 25, 0, 13⟩, ⟨13, 28, 255, 0, 13⟩]
theorem rowsT_len : rowsT.length = 96 := rfl
theorem rows_run (h : Heap) : kRun DD 400 (.call 63 [] h) = some (.ret, [.sc (.slice h.n 0 96 96)], h.push (.cells 101 .own (rowsT.flatMap rwE.enc))) := by kernel_rfl
theorem w63 (h : Heap) : Wc DD 63 [] h fun v h' => ∃ u c, v = .sc u ∧ AccS rwE 101 u rowsT c ∧ Sep (Now h) [c] h' := by
  have r := rows_run h
  rw [kRun_eq] at r
  refine W_run r ⟨_, rfl, _, _, rfl, AccS.one (L := rowsT) (kd := .own) (by decide) rfl, (Sep.entry h).push _⟩
theorem w47 {st : Int} {c : UInt8} {h0 : Heap} : Wc DD 47 [i64 st, .sc (.int .u8 (c.toNat : Int))] h0 fun v h' => ∃ a n : Int, v = .tup [i64 a, i64 n] ∧ Sep (Now h0) [] h' := by
  have hs := Sep.entry h0
  have hc0 := c.toNat_lt
  refine W_enter d47 ?_
  show W _ (.code m47_code [i64 st, .sc (.int .u8 (c.toNat : Int)), undefA, undefA, undefA, undefA, undefA, undefA, undefA, undefA, undefA, undefA, undefA, undefA, undefA, undefA, undefA, undefA, undefA, undefA, undefA, undefA, undefA, undefA, undefA, undefA, undefA, undefA, undefA, undefA, undefA, undefA, undefA, undefA, undefA, undefA, undefA, undefA, undefA, undefA, undefA, undefA, undefA, undefA, undefA, undefA, undefA, undefA, undefA, undefA, undefA, undefA, undefA, undefA, undefA, undefA, undefA, undefA, undefA, undefA, undefA, undefA, undefA, undefA, undefA, undefA] _) _
  unfold m47_code
  repeat' (first
    | (refine K_ops ?_; first
      | refine W_fastB rfl ?_
      | refine W_nil ?_
      | (refine K_guard ?_; first
        | refine W_guard_on rfl ?_
        | refine W_guard_off rfl rfl (W_norm rfl ?_)
        | (refine W_guardF rfl (fun hc => ?_) (fun hc => ?_) <;> (try rw [hc]) <;> (try simp only [cleanS, reduceCtorEq] at hc) <;> (try (exfalso; omega)) <;> (try refine W_norm rfl ?_))
      )
      | (refine K_pick ?_; first
        | refine W_pick_t rfl rfl (W_norm rfl ?_)
        | refine W_pick_f rfl rfl (W_norm rfl ?_)
      )
    )
    | (refine K_code ?_; first
      | (refine W_midB (a := .seq (.ops m47_r5) _) [0, 16, 17, 18, 19, 20, 21] [0, 1, 2, 3, 4, 5, 6, 7, 8, 9, 10, 11, 12, 13, 14, 15, 16, 17, 18, 19, 20, 21, 22, 23, 24, 25, 26, 27, 28, 29, 30, 31, 32, 33, 34, 35, 36, 37, 38, 39, 40, 41, 42, 43, 44, 45, 46, 47, 48, 49, 50, 51, 52, 53, 54, 55, 56, 57, 58, 59, 60, 61, 62, 63, 64, 65] (fun sl h' => ∃ (s2 : Int), sl = [(0, i64 s2)] ∧ h' = h0) ?_ ?_)
      | refine W_seq ?_
      | refine W_ops ?_
      | refine W_cond_t rfl ?_
      | (refine W_cond rfl (fun hc => ?_) (fun hc => ?_) <;> (try rw [hc]) <;> (try simp only [cleanS, reduceCtorEq] at hc) <;> (try (exfalso; omega)) <;> (try refine W_norm rfl ?_))
      | refine W_skip ?_
      | refine W_ret ?_
    )
    | refine seqK_n ?_
    | refine seqK_r ?_
    | refine midK_n ?_
    | (refine fnK_r rfl ?_; try dsimp only [gd_z, gd_s]))
  all_goals first
    | exact ⟨_, rfl, _, _, rfl, hs⟩
    | exact ⟨_, ⟨_, rfl, rfl⟩, EnvB.of rfl⟩
    | skip
  rintro _ us _ h4 ⟨s2, rfl, rfl⟩ he
  refine W_spell he rfl ?_
  clear he
  have hrl := rowsT_len
  repeat' (first
    | (refine K_ops ?_; first
      | refine W_fastB rfl ?_
      | refine W_nil ?_
      | (refine K_call ?_; first
        | (refine W_callsN 63 rfl (w63 _) rfl ?_; rintro _ h ⟨u, cc, rfl, ha, t⟩; replace hs := hs.call t; try simp only [setS] at hs; refine W_norm rfl ?_)
      )
    )
    | (refine K_code ?_; first
      | refine W_seq ?_
      | refine W_ops ?_
      | refine W_block ?_
    )
    | refine seqK_n ?_)
  have hsl := ha.add (Now h4)
  replace hs := hs.freeze 0 rfl
  simp only [List.eraseIdx_zero, List.tail_cons] at hs
  have hln := ha.ln
  clear ha t
  generalize rowsT = L at *
  refine W_loopB [4, 5, 7, 23, 24, 25, 26, 27, 28, 29, 30, 31, 32, 33, 34, 35, 36, 37, 38, 39, 40, 41, 42, 43, 44, 45, 46, 47, 48, 49, 50, 51, 52, 53, 54, 55, 56, 57, 58, 59, 60, 61, 62, 63, 64, 65] [0, 1, 2, 3, 4, 5, 6, 7, 8, 9, 10, 11, 12, 13, 14, 15, 16, 17, 18, 19, 20, 21, 22, 23, 24, 25, 26, 27, 28, 29, 30, 31, 32, 33, 34, 35, 36, 37, 38, 39, 40, 41, 42, 43, 44, 45, 46, 47, 48, 49, 50, 51, 52, 53, 54, 55, 56, 57, 58, 59, 60, 61, 62, 63, 64, 65] (fun n' sl h' => ∃ (i : Nat), sl = [(7, i64 (i : Int))] ∧ n' = L.length - i ∧ i ≤ L.length ∧ Sep ((Now h4).add cc) [] h') ?_ ?_
  · refine ⟨_, _, ⟨0, rfl, rfl, by omega, hs⟩, EnvB.of rfl⟩
  clear hs
  rintro _ _ us2 _ h5 ⟨i, rfl, rfl, hi, hs⟩ he
  refine W_spell he rfl ?_
  clear he
  unfold m47_l9
  by_cases hlt : i < L.length
  · repeat' (first
      | (refine K_ops ?_; first
        | refine W_fastB rfl ?_
        | refine W_nil ?_
        | (refine K_guard ?_; first
          | refine W_guard_on rfl ?_
          | refine W_guard_off rfl rfl (W_norm rfl ?_)
          | (refine W_guardT rfl (fun hc => ?_) (fun hc => ?_) <;> (try rw [hc]) <;> (try simp only [cleanS, reduceCtorEq] at hc) <;> (try (exfalso; omega)) <;> (try refine W_norm rfl ?_))
        )
        | (refine W_lenL rfl (by first | assumption | exact SlR.ln (by assumption) | exact AccS.ln (by assumption) | exact OwnS.ln (by assumption) | exact VwO.ln (by assumption) | exact OwnP.ln (by assumption) | exact Len.sl) ?_; refine W_norm rfl ?_)
        | (refine K_bin ?_; first
          | (refine W_add rfl rfl (IntWalk.i64_in _ (by first | omega | (simp only [lenS]; omega))) ?_; refine W_norm rfl ?_)
        )
        | (refine K_pick ?_; first
          | refine W_pick_t rfl rfl (W_norm rfl ?_)
          | refine W_pick_f rfl rfl (W_norm rfl ?_)
        )
        | (refine K_index ?_; first
          | (refine W_indexR rfl rfl (by assumption) rfl ⟨(by first | omega | (simp only [lenS]; omega)), (by first | omega | (simp only [lenS]; omega))⟩ ?_; intro _ _ _; refine W_norm rfl ?_)
        )
        | (refine K_load ?_; first
          | (refine W_loadR hs rfl (by assumption) rfl ?_; refine W_norm rfl ?_)
          | (refine W_loadRF hs rfl (by assumption) rfl ?_; refine W_norm rfl ?_)
        )
        | (refine W_convint rfl (IntWalk.i64_in _ (by omega)) ?_; refine W_norm rfl ?_)
      )
      | (refine K_code ?_; first
        | ((refine W_draw rfl ?_))
        | refine W_seq ?_
        | refine W_ops ?_
        | refine W_cond_f rfl ?_
        | (refine W_cond rfl (fun hc => ?_) (fun hc => ?_) <;> (try rw [hc]) <;> (try simp only [cleanS, reduceCtorEq] at hc) <;> (try (exfalso; omega)) <;> (try refine W_norm rfl ?_))
        | refine W_skip ?_
        | refine W_ret ?_
        | refine W_block ?_
      )
      | refine seqK_n ?_
      | refine seqK_r ?_
      | refine blockK_r ?_
      | refine blockK_n ?_
      | refine invK_r ?_
      | refine invK_n ?_
      | (refine fnK_r rfl ?_; try dsimp only [gd_z, gd_s]))
    all_goals first
      | exact ⟨_, rfl, _, _, rfl, hs.unadd⟩
      | (refine ⟨_, ?_, _, ⟨i + 1, rfl, rfl, ?_, hs⟩, EnvB.of rfl⟩ <;> omega)
      | skip
  · repeat' (first
      | (refine K_ops ?_; first
        | refine W_fastB rfl ?_
        | refine W_nil ?_
        | (refine W_lenL rfl (by first | assumption | exact SlR.ln (by assumption) | exact AccS.ln (by assumption) | exact OwnS.ln (by assumption) | exact VwO.ln (by assumption) | exact OwnP.ln (by assumption) | exact Len.sl) ?_; refine W_norm rfl ?_)
      )
      | (refine K_code ?_; first
        | refine W_seq ?_
        | refine W_ops ?_
        | (refine W_cond rfl (fun hc => ?_) (fun hc => ?_) <;> (try rw [hc]) <;> (try simp only [cleanS, reduceCtorEq] at hc) <;> (try (exfalso; omega)) <;> (try refine W_norm rfl ?_))
        | refine W_ret ?_
        | refine W_exit ?_
      )
      | refine seqK_n ?_
      | refine seqK_x ?_
      | refine blockK_e ?_
      | refine invK_x ?_
      | (refine fnK_r rfl ?_; try dsimp only [gd_z, gd_s]))
    exact ⟨_, rfl, _, _, rfl, hs.unadd⟩

theorem AccS.own {α : Type} {E : El α} {t : TypeId} {v : SV} {L : List α} {c : Hp} (p : AccS E t v L c) : OwnS E t v L c := p.1
theorem w51 {s : List UInt8} {h0 : Heap} (hl : s.length ≤ 100000) : Wc DD 51 [.sc (.str s)] h0 fun v h' => ∃ u H ca, v = .sc u ∧ NsO (intEl .i64) 3 26 u H ca ∧ H.length ≤ 16 ∧ (∀ r ∈ H, r.L.length ≤ 8) ∧ Sep (Now h0) [ca, hpOf H] h' := by
  have hs := Sep.entry h0
  refine W_enter d51 ?_
  show W _ (.code m51_code [.sc (.str s), undefA, undefA, undefA, undefA, undefA, undefA, undefA, undefA, undefA, undefA, undefA, undefA, undefA, undefA, undefA, undefA, undefA, undefA, undefA, undefA, undefA, undefA, undefA, undefA, undefA, undefA, undefA, undefA, undefA, undefA, undefA, undefA, undefA, undefA, undefA, undefA, undefA, undefA, undefA, undefA, undefA, undefA, undefA, undefA, undefA, undefA, undefA, undefA, undefA, undefA, undefA, undefA, undefA, undefA, undefA, undefA, undefA, undefA, undefA, undefA, undefA, undefA, undefA, undefA, undefA, undefA, undefA] _) _
  unfold m51_code
  repeat' (first
    | (refine K_ops ?_; first
      | refine W_fastB rfl ?_
      | refine W_nil ?_
      | (refine K_bslice ?_; first
        | (refine W_buildS0 (intEl .i64) hs ?_; clear hs; intro _ _ _ _ hs; try simp only [setS] at hs; refine W_norm rfl ?_)
      )
    )
    | (refine K_code ?_; first
      | refine W_seq ?_
      | refine W_ops ?_
      | refine W_block ?_
    )
    | refine seqK_n ?_)
  rename_i v1 c1 h1 ha1
  refine W_loopB [3, 4, 5, 6, 7, 8, 9, 11, 12, 13, 14, 15, 16, 17, 18, 19, 20, 21, 22, 23, 24, 25, 26, 27, 28, 29, 30, 31, 32, 33, 34, 35, 36, 37, 38, 39, 40, 41, 42, 43, 44, 45, 46, 47, 48, 49, 50, 51, 52, 53, 54, 55, 56, 57, 58, 59, 60, 61, 62, 63, 64, 65, 66] [0, 1, 2, 3, 4, 5, 6, 7, 8, 9, 10, 11, 12, 13, 14, 15, 16, 17, 18, 19, 20, 21, 22, 23, 24, 25, 26, 27, 28, 29, 30, 31, 32, 33, 34, 35, 36, 37, 38, 39, 40, 41, 42, 43, 44, 45, 46, 47, 48, 49, 50, 51, 52, 53, 54, 55, 56, 57, 58, 59, 60, 61, 62, 63, 64, 65, 66, 67] (fun n' sl h' => ∃ (i : Nat) (u : SV) (o : SV) (n : Int) (any : Bool) (p : Int) (H : List (Hd Int)) (L : List Int) (ca : Hp) (co : Hp), sl = [(3, .sc u), (4, .sc o), (5, i64 n), (6, bo any), (7, i64 p), (8, i64 (i : Int))] ∧ n' = s.length + 1 - i ∧ i ≤ s.length + 1 ∧ (0 ≤ n ∧ n ≤ 9999) ∧ (1 ≤ p ∧ p ≤ (i : Int) + 1) ∧ ((L.length : Int) + 1 ≤ p ∧ L.length ≤ 8) ∧ NsO (intEl .i64) 3 26 u H ca ∧ H.length ≤ 16 ∧ (∀ r ∈ H, r.L.length ≤ 8) ∧ AccS (intEl .i64) 3 o L co ∧ Sep (Now h0) [co, ca, hpOf H] h') ?_ ?_
  · refine ⟨_, _, ⟨0, .nils, v1, 0, false, 1, [], [], [], c1, rfl, rfl, by omega, by omega, by omega, by simp, NsO.nil _ _, by simp, by simp, ha1, ?_⟩, EnvB.of rfl⟩
    exact hs.reord (fun a => by simp only [List.flatten_cons, List.flatten_nil, List.count_append, List.count_nil, hpOf_append, hpOf_cons, hpOf_nil, List.append_nil, List.eraseIdx_cons_succ, List.eraseIdx_zero, List.tail_cons] <;> omega)
  clear hs ha1
  rintro _ _ us2 _ h5 ⟨i, u, o, n, any, p, H, L, ca, co, rfl, rfl, hi, hn, hp, hL, hu, hH, hHr, ho, hs⟩ he
  refine W_spell he rfl ?_
  clear he
  unfold m51_l7
  have hln := hu.ln
  have hlo := ho.ln
  have hu1 := hu.1
  have hml : (H.map Hd.v).length = H.length := List.length_map _
  by_cases hlt : i < s.length
  · have hb := (s.getD (i : Int).toNat 0).toNat_lt
    repeat' (first
      | (refine K_ops ?_; first
        | refine W_fastB rfl ?_
        | refine W_nil ?_
        | (refine K_guard ?_; first
          | refine W_guard_on rfl ?_
          | refine W_guard_off rfl rfl (W_norm rfl ?_)
          | (refine W_guardF rfl (fun hc => ?_) (fun hc => ?_) <;> (try rw [hc]) <;> (try simp only [cleanS, reduceCtorEq] at hc) <;> (try (exfalso; omega)) <;> (try refine W_norm rfl ?_))
        )
        | (refine W_lenL rfl (by first | assumption | exact SlR.ln (by assumption) | exact AccS.ln (by assumption) | exact OwnS.ln (by assumption) | exact VwO.ln (by assumption) | exact OwnP.ln (by assumption) | exact Len.sl) ?_; refine W_norm rfl ?_)
        | (refine K_bin ?_; first
          | (refine W_add rfl rfl (IntWalk.i64_in _ (by first | omega | (simp only [lenS]; omega))) ?_; refine W_norm rfl ?_)
          | (refine W_sub rfl rfl (IntWalk.i64_in _ (by first | omega | (simp only [lenS]; omega))) ?_; refine W_norm rfl ?_)
          | (refine W_mul rfl rfl (IntWalk.i64_in _ (by first | omega | (simp only [lenS]; omega))) ?_; refine W_norm rfl ?_)
        )
        | (refine K_pick ?_; first
          | refine W_pick_t rfl rfl (W_norm rfl ?_)
          | refine W_pick_f rfl rfl (W_norm rfl ?_)
        )
        | (refine K_bslice ?_; first
          | (refine W_appB1 (intEl .i64) hs 0 rfl rfl rfl (by assumption) rfl rfl rfl ⟨by decide, (by first | omega | (simp only [lenS]; omega))⟩ ?_; clear hs; intro _ _ _ _ _ hs; try simp only [setS] at hs; refine W_norm rfl ?_)
          | (refine W_buildS0 (intEl .i64) hs ?_; clear hs; intro _ _ _ _ hs; try simp only [setS] at hs; refine W_norm rfl ?_)
          | (refine W_appB1 svEl hs 1 rfl rfl rfl (by assumption) rfl rfl rfl ⟨by decide, (by first | omega | (simp only [lenS]; omega))⟩ ?_; clear hs; intro _ _ _ _ _ hs; try simp only [setS] at hs; refine W_norm rfl ?_)
        )
        | (refine W_convint rfl (IntWalk.i64_in _ (by omega)) ?_; refine W_norm rfl ?_)
        | (refine W_idxStr rfl rfl ⟨(by first | omega | (simp only [lenS]; omega)), (by first | omega | (simp only [lenS]; omega))⟩ ?_; refine W_norm rfl ?_)
      )
      | (refine K_code ?_; first
        | refine W_seq ?_
        | refine W_ops ?_
        | refine W_cond_t rfl ?_
        | (refine W_cond rfl (fun hc => ?_) (fun hc => ?_) <;> (try rw [hc]) <;> (try simp only [cleanS, reduceCtorEq] at hc) <;> (try (exfalso; omega)) <;> (try refine W_norm rfl ?_))
        | refine W_skip ?_
        | refine W_exit ?_
        | refine W_block ?_
      )
      | refine seqK_n ?_
      | refine seqK_x ?_
      | refine blockK_n ?_
      | refine blockK_e ?_
      | refine invK_n ?_)
    all_goals first
      | (refine ⟨_, ?_, _, ⟨i + 1, _, _, _, _, _, _, _, _, _, rfl, rfl, ?_, ?_, ?_, ?_, hu, ?_, hHr, ho, hs⟩, EnvB.of rfl⟩ <;> (first | omega | (simp only [List.length_append, List.length_cons, List.length_nil]; omega) | (simp only [List.length_nil]; omega)))
      | (refine ⟨_, ?_, _, ⟨i + 1, _, _, _, _, _, _, _, _, _, rfl, rfl, ?_, ?_, ?_, ?_, hu, ?_, hHr, (by assumption), hs⟩, EnvB.of rfl⟩ <;> (first | omega | (simp only [List.length_append, List.length_cons, List.length_nil]; omega) | (simp only [List.length_nil]; omega)))
      | (refine ⟨_, ?_, _, ⟨i + 1, _, _, _, _, _, _, _, _, _, rfl, rfl, ?_, ?_, ?_, ?_, (NsO.push hu (r := ⟨_, _, _⟩) (by assumption) (AccS.own (by assumption))), ?_, (fun r hr => by rcases List.mem_append.1 hr with hr | hr; exact hHr r hr; simp only [List.mem_singleton] at hr; subst hr; first | omega | (simp only [List.length_append, List.length_cons, List.length_nil]; omega)), (by assumption), (hs.reord (fun a => by simp only [List.flatten_cons, List.flatten_nil, List.count_append, List.count_nil, hpOf_append, hpOf_cons, hpOf_nil, List.append_nil, List.eraseIdx_cons_succ, List.eraseIdx_zero, List.tail_cons] <;> omega))⟩, EnvB.of rfl⟩ <;> (first | omega | (simp only [List.length_append, List.length_cons, List.length_nil]; omega) | (simp only [List.length_nil]; omega)))
      | (refine ⟨_, ?_, _, ⟨i + 1, _, _, _, _, _, _, _, _, _, rfl, rfl, ?_, ?_, ?_, ?_, hu, ?_, hHr, (by assumption), (hs.drop 1)⟩, EnvB.of rfl⟩ <;> (first | omega | (simp only [List.length_append, List.length_cons, List.length_nil]; omega) | (simp only [List.length_nil]; omega)))
      | skip
  · by_cases hle : i ≤ s.length
    · repeat' (first
        | (refine K_ops ?_; first
          | refine W_fastB rfl ?_
          | refine W_nil ?_
          | (refine K_guard ?_; first
            | refine W_guard_on rfl ?_
            | refine W_guard_off rfl rfl (W_norm rfl ?_)
            | (refine W_guardT rfl (fun hc => ?_) (fun hc => ?_) <;> (try rw [hc]) <;> (try simp only [cleanS, reduceCtorEq] at hc) <;> (try (exfalso; omega)) <;> (try refine W_norm rfl ?_))
          )
          | (refine W_lenL rfl (by first | assumption | exact SlR.ln (by assumption) | exact AccS.ln (by assumption) | exact OwnS.ln (by assumption) | exact VwO.ln (by assumption) | exact OwnP.ln (by assumption) | exact Len.sl) ?_; refine W_norm rfl ?_)
          | (refine K_bin ?_; first
            | (refine W_add rfl rfl (IntWalk.i64_in _ (by first | omega | (simp only [lenS]; omega))) ?_; refine W_norm rfl ?_)
          )
          | (refine K_pick ?_; first
            | refine W_pick_t rfl rfl (W_norm rfl ?_)
            | refine W_pick_f rfl rfl (W_norm rfl ?_)
          )
          | (refine K_bslice ?_; first
            | (refine W_appB1 (intEl .i64) hs 0 rfl rfl rfl (by assumption) rfl rfl rfl ⟨by decide, (by first | omega | (simp only [lenS]; omega))⟩ ?_; clear hs; intro _ _ _ _ _ hs; try simp only [setS] at hs; refine W_norm rfl ?_)
            | (refine W_buildS0 (intEl .i64) hs ?_; clear hs; intro _ _ _ _ hs; try simp only [setS] at hs; refine W_norm rfl ?_)
            | (refine W_appB1 svEl hs 1 rfl rfl rfl (by assumption) rfl rfl rfl ⟨by decide, (by first | omega | (simp only [lenS]; omega))⟩ ?_; clear hs; intro _ _ _ _ _ hs; try simp only [setS] at hs; refine W_norm rfl ?_)
          )
        )
        | (refine K_code ?_; first
          | refine W_seq ?_
          | refine W_ops ?_
          | refine W_cond_t rfl ?_
          | refine W_cond_f rfl ?_
          | (refine W_cond rfl (fun hc => ?_) (fun hc => ?_) <;> (try rw [hc]) <;> (try simp only [cleanS, reduceCtorEq] at hc) <;> (try (exfalso; omega)) <;> (try refine W_norm rfl ?_))
          | refine W_skip ?_
          | refine W_block ?_
        )
        | refine seqK_n ?_
        | refine blockK_n ?_
        | refine invK_n ?_)
      all_goals first
        | (refine ⟨_, ?_, _, ⟨i + 1, _, _, _, _, _, _, _, _, _, rfl, rfl, ?_, ?_, ?_, ?_, hu, ?_, hHr, ho, hs⟩, EnvB.of rfl⟩ <;> (first | omega | (simp only [List.length_append, List.length_cons, List.length_nil]; omega) | (simp only [List.length_nil]; omega)))
        | (refine ⟨_, ?_, _, ⟨i + 1, _, _, _, _, _, _, _, _, _, rfl, rfl, ?_, ?_, ?_, ?_, hu, ?_, hHr, (by assumption), hs⟩, EnvB.of rfl⟩ <;> (first | omega | (simp only [List.length_append, List.length_cons, List.length_nil]; omega) | (simp only [List.length_nil]; omega)))
        | (refine ⟨_, ?_, _, ⟨i + 1, _, _, _, _, _, _, _, _, _, rfl, rfl, ?_, ?_, ?_, ?_, (NsO.push hu (r := ⟨_, _, _⟩) (by assumption) (AccS.own (by assumption))), ?_, (fun r hr => by rcases List.mem_append.1 hr with hr | hr; exact hHr r hr; simp only [List.mem_singleton] at hr; subst hr; first | omega | (simp only [List.length_append, List.length_cons, List.length_nil]; omega)), (by assumption), (hs.reord (fun a => by simp only [List.flatten_cons, List.flatten_nil, List.count_append, List.count_nil, hpOf_append, hpOf_cons, hpOf_nil, List.append_nil, List.eraseIdx_cons_succ, List.eraseIdx_zero, List.tail_cons] <;> omega))⟩, EnvB.of rfl⟩ <;> (first | omega | (simp only [List.length_append, List.length_cons, List.length_nil]; omega) | (simp only [List.length_nil]; omega)))
        | (refine ⟨_, ?_, _, ⟨i + 1, _, _, _, _, _, _, _, _, _, rfl, rfl, ?_, ?_, ?_, ?_, hu, ?_, hHr, (by assumption), (hs.drop 1)⟩, EnvB.of rfl⟩ <;> (first | omega | (simp only [List.length_append, List.length_cons, List.length_nil]; omega) | (simp only [List.length_nil]; omega)))
        | skip
    · repeat' (first
        | (refine K_ops ?_; first
          | refine W_fastB rfl ?_
          | refine W_nil ?_
        )
        | (refine K_code ?_; first
          | refine W_seq ?_
          | refine W_ops ?_
          | (refine W_cond rfl (fun hc => ?_) (fun hc => ?_) <;> (try rw [hc]) <;> (try simp only [cleanS, reduceCtorEq] at hc) <;> (try (exfalso; omega)) <;> (try refine W_norm rfl ?_))
          | refine W_ret ?_
          | refine W_exit ?_
        )
        | refine seqK_n ?_
        | refine seqK_x ?_
        | refine blockK_e ?_
        | refine invK_x ?_
        | (refine fnK_r rfl ?_; try dsimp only [gd_z, gd_s]))
      exact ⟨_, rfl, u, H, ca, rfl, hu, hH, hHr, hs.drop 0⟩
end Go.Proofs.YtggkbkbhegcbkaaDoor
/- The document's parser, walked: what it tells. CLNONE -/
set_option linter.unusedSimpArgs false
set_option linter.unusedVariables false
set_option maxHeartbeats 2000000
set_option maxRecDepth 100000
namespace Go.Proofs.YtggkbkbhegcbkaaDoor
open Go Go.Jx

/-- An event, as it lies in memory. -/
structure Es where
  k : Int
  r : Int
  f : Int
  m : List UInt8
  p : SV
  t : List UInt8
def es0 : Es := ⟨0, 0, 0, [], .nils, []⟩
def evE : El Es := ⟨6, fun e => [.int .i64 e.k, .int .i32 e.r, .int .u8 e.f, .str e.m, e.p, .str e.t], fun l => match l with | [.int _ k, .int _ r, .int _ f, .str m, p, .str t] => ⟨k, r, f, m, p, t⟩ | _ => es0, es0, fun _ => rfl, by decide, fun _ => rfl⟩
def ShortP (P : List (SV × List Int)) : Prop := P.length ≤ 1000000 ∧ ∀ g ∈ P, g.2.length ≤ 1000000
/-- What is told may be classed: its parameters lie in cp. -/
def Good (cp : Hp) (e : Es) : Prop := (0 ≤ e.f ∧ e.f < 256) ∧ e.m.length ≤ 100000 ∧ (e.k = 5 → e.t.length ≤ 15000) ∧ ∃ P, (∀ R : Ro, (∀ x ∈ cp, R x.1 x.2) → NsR (intEl .i64) R e.p P) ∧ ShortP P
theorem Good.mono {cp cp' : Hp} {e : Es} (g : Good cp e) (h : ∀ x ∈ cp, x ∈ cp') : Good cp' e := by
  obtain ⟨h1, h2, h3, P, h4, h5⟩ := g
  exact ⟨h1, h2, h3, P, fun R hR => h4 R fun x hx => hR x (h x hx), h5⟩
theorem good_nils {cp : Hp} {k r f : Int} {m t : List UInt8} (h1 : 0 ≤ f ∧ f < 256) (h2 : m.length ≤ 100000) (h3 : k = 5 → t.length ≤ 15000) : Good cp ⟨k, r, f, m, .nils, t⟩ :=
  ⟨h1, h2, h3, [], fun R _ => ⟨SlR.nil _, by simp⟩, by simp, by simp⟩
theorem good_all {cp cp' : Hp} {L : List Es} {e : Es} (h : ∀ x ∈ L, Good cp x) (hc : ∀ x ∈ cp, x ∈ cp') (he : Good cp' e) : ∀ x ∈ L ++ [e], Good cp' x := by
  intro x hx
  rcases List.mem_append.1 hx with hx | hx
  · exact (h x hx).mono hc
  · simp only [List.mem_singleton] at hx; subst hx; exact he
abbrev pzO (st : Int) (kept list mids : List UInt8) (fin : Int) (text : List UInt8) (u : SV) : AO := .cells 66 .own [.int .i64 st, .str kept, .str list, .str mids, .int .u8 fin, .str text, u]

theorem w50 {R : Ro} {M : List Hp} {h : Heap} {id : Nat} {st fin r : Int} {kept list mids text : List UInt8} {u : SV} {L : List Es} {ct : Hp} (hs : Sep R ([(id, pzO st kept list mids fin text u)] :: ct :: M) h) (hu : AccS evE 42 u L ct) (hl : L.length ≤ 1000000) :
    Wc DD 50 [.sc (.ptr id 0), .sc (.int .i32 r)] h fun v h' => ∃ u' ct', v = .tup [] ∧ AccS evE 42 u' (L ++ [⟨1, r, 0, [], .nils, []⟩]) ct' ∧ Sep R ([(id, pzO st kept list mids fin text u')] :: ct' :: M) h' := by
  refine W_enter d50 ?_
  show W _ (.code m50_code [.sc (.ptr id 0), .sc (.int .i32 r), undefA, undefA, undefA, undefA, undefA, undefA, undefA, undefA, undefA, undefA, undefA, undefA, undefA] _) _
  unfold m50_code
  repeat' (first
    | (refine K_ops ?_; first
      | refine W_fastB rfl ?_
      | refine W_nil ?_
      | (refine K_load ?_; first
        | (refine W_loadC hs 0 rfl rfl rfl ?_; refine W_norm rfl ?_)
      )
      | (refine K_store ?_; first
        | (refine W_storeC hs 0 rfl rfl rfl rfl (by first | decide | assumption) rfl rfl ?_; clear hs; intro _ hs; try simp only [setS] at hs; refine W_norm rfl ?_)
      )
      | (refine K_bslice ?_; first
        | (refine W_appB1 evE hs 1 rfl rfl rfl (by assumption) rfl rfl rfl ⟨by decide, (by first | omega | (simp only [lenS]; omega))⟩ ?_; clear hs; intro _ _ _ _ _ hs; try simp only [setS] at hs; refine W_norm rfl ?_)
      )
      | (refine W_buildN rfl ?_; refine W_norm rfl ?_)
    )
    | (refine K_code ?_; first
      | refine W_ops ?_
    )
    | (refine fnK_n rfl ?_; try dsimp only [gd_z, gd_s]))
  exact ⟨_, rfl, _, _, rfl, by assumption, hs⟩
theorem w33 {R : Ro} {M : List Hp} {h : Heap} {id : Nat} {st fin : Int} {kept list mids text : List UInt8} {u : SV} {L : List Es} {ct cp : Hp} (hs : Sep R ([(id, pzO st kept list mids fin text u)] :: ct :: M) h) (hu : AccS evE 42 u L ct) (hl : L.length ≤ 1000000) (hg : ∀ x ∈ L, Good cp x) :
    Wc DD 33 [.sc (.ptr id 0)] h fun v h' => ∃ u' L' ct', v = .tup [] ∧ AccS evE 42 u' L' ct' ∧ L'.length ≤ L.length + 1 ∧ (∀ x ∈ L', Good cp x) ∧ Sep R ([(id, pzO st [] list mids fin text u')] :: ct' :: M) h' := by
  refine W_enter d33 ?_
  show W _ (.code m33_code [.sc (.ptr id 0), undefA, undefA, undefA, undefA, undefA, undefA, undefA, undefA, undefA, undefA, undefA, undefA, undefA] _) _
  unfold m33_code
  repeat' (first
    | (refine K_ops ?_; first
      | refine W_fastB rfl ?_
      | refine W_nil ?_
      | (refine K_call ?_; first
        | (refine W_callsN 50 rfl (w50 hs hu hl) rfl ?_; rintro _ h ⟨u2, ct2, rfl, hu2, hs2⟩; replace hs := hs2; clear hs2; refine W_norm rfl ?_)
      )
      | (refine K_load ?_; first
        | (refine W_loadC hs 0 rfl rfl rfl ?_; refine W_norm rfl ?_)
      )
      | (refine K_store ?_; first
        | (refine W_storeC hs 0 rfl rfl rfl rfl (by first | decide | assumption) rfl rfl ?_; clear hs; intro _ hs; try simp only [setS] at hs; refine W_norm rfl ?_)
      )
    )
    | (refine K_code ?_; first
      | refine W_seq ?_
      | refine W_ops ?_
      | (refine W_cond rfl (fun hc => ?_) (fun hc => ?_) <;> (try rw [hc]) <;> (try simp only [cleanS, reduceCtorEq] at hc) <;> (try (exfalso; omega)) <;> (try refine W_norm rfl ?_))
      | refine W_skip ?_
    )
    | refine seqK_n ?_
    | (refine fnK_n rfl ?_; try dsimp only [gd_z, gd_s]))
  all_goals first
    | exact ⟨_, rfl, _, _, _, rfl, hu2, (by rw [List.length_append]; simp), good_all hg (fun _ h => h) (good_nils (by simp) (by simp) (fun h => by cases h)), hs⟩
    | (subst hc; exact ⟨_, rfl, _, _, _, rfl, hu, Nat.le_succ _, hg, hs⟩)
    | (have hk : kept = [] := by simpa using hc
       subst hk; exact ⟨_, rfl, _, _, _, rfl, hu, Nat.le_succ _, hg, hs⟩)
    | skip
theorem w49q {R : Ro} {M : List Hp} {h : Heap} {id : Nat} {st fin : Int} {s list mids text : List UInt8} {u : SV} {b : UInt8} (hs : Sep R ([(id, pzO st s list mids fin text u)] :: M) h) (hl : s.length ≤ 3) :
    Wc DD 49 [.sc (.ptr id 1), .sc (.int .u8 (b.toNat : Int))] h fun v h' => ∃ u2 c, v = .sc u2 ∧ AccS (intEl .i32) 21 u2 (byteB s b).2 c ∧ Sep R (c :: [(id, pzO st (byteB s b).1 list mids fin text u)] :: M) h' := by
  have hnil : AccS (intEl .i32) 21 .nils [] [] := AccS.nil _
  replace hs := hs.nil
  refine W_enter d49 ?_
  show W _ (.code m49_code [.sc (.ptr id 1), .sc (.int .u8 (b.toNat : Int)), undefA, undefA, undefA, undefA, undefA, undefA, undefA, undefA, undefA, undefA, undefA, undefA, undefA, undefA, undefA, undefA, undefA, undefA, undefA, undefA, undefA, undefA, undefA, undefA, undefA, undefA, undefA, undefA, undefA, undefA, undefA, undefA, undefA, undefA, undefA, undefA, undefA, undefA, undefA, undefA, undefA, undefA, undefA, undefA, undefA, undefA, undefA, undefA, undefA, undefA, undefA] _) _
  unfold m49_code
  have l1 : (s ++ [b]).length ≤ 100000 := by rw [List.length_append]; simp; omega
  have l2 : 1 ≤ (s ++ [b]).length ∧ (s ++ [b]).length ≤ 4 := by rw [List.length_append]; simp; omega
  repeat' (first
    | (refine K_ops ?_; first
      | refine W_fastB rfl ?_
      | refine W_nil ?_
      | (refine W_bytesStr (L := [b]) (bytes_of (AccS.now (by assumption) hs (by simp))) rfl ?_; refine W_norm rfl ?_)
      | (refine K_guard ?_; first
        | refine W_guard_on rfl ?_
        | refine W_guard_off rfl rfl (W_norm rfl ?_)
        | (refine W_guardT rfl (fun hc => ?_) (fun hc => ?_) <;> (try rw [hc]) <;> (try simp only [cleanS, reduceCtorEq] at hc) <;> (try (exfalso; omega)) <;> (try refine W_norm rfl ?_))
      )
      | (refine K_call ?_; first
        | (refine W_callsN 64 rfl (w64 (s ++ [b]) _ l1) rfl ?_; rintro _ h2 ⟨rfl, t⟩; replace t := sub_sep t; have hs := hs.call t; try simp only [setS] at hs; refine W_norm rfl ?_)
        | (refine W_callsN 64 rfl (w64 [b] _ (by simp)) rfl ?_; rintro _ h2 ⟨rfl, t⟩; replace t := sub_sep t; have hs := hs.call t; try simp only [setS] at hs; refine W_norm rfl ?_)
        | (refine W_callsN 65 rfl (w65 (s ++ [b]) _ l2) rfl ?_; rintro _ h2 ⟨rfl, rfl⟩; refine W_norm rfl ?_)
        | (refine W_callsN 65 rfl (w65 [b] _ (by simp)) rfl ?_; rintro _ h2 ⟨rfl, rfl⟩; refine W_norm rfl ?_)
      )
      | (refine K_bin ?_; first
        | (refine W_cat rfl rfl (by first | omega | (simp only [lenS]; omega)) ?_; refine W_norm rfl ?_)
      )
      | (refine K_pick ?_; first
        | refine W_pick_t rfl rfl (W_norm rfl ?_)
        | refine W_pick_f rfl rfl (W_norm rfl ?_)
      )
      | (refine K_load ?_; first
        | (refine W_loadC hs 1 rfl rfl rfl ?_; refine W_norm rfl ?_)
        | (refine W_loadC hs 2 rfl rfl rfl ?_; refine W_norm rfl ?_)
      )
      | (refine K_store ?_; first
        | (refine W_storeC hs 2 rfl rfl rfl rfl (by first | decide | assumption) rfl rfl ?_; intro _ hs; try simp only [setS] at hs; refine W_norm rfl ?_)
        | (refine W_storeC hs 3 rfl rfl rfl rfl (by first | decide | assumption) rfl rfl ?_; intro _ hs; try simp only [setS] at hs; refine W_norm rfl ?_)
      )
      | (refine K_bslice ?_; first
        | (refine W_appB1 (intEl .i32) hs 1 rfl rfl rfl (by assumption) rfl rfl rfl ⟨by decide, (by first | omega | (simp only [lenS]; omega))⟩ ?_; intro _ _ _ _ _ hs; try simp only [setS] at hs; refine W_norm rfl ?_)
        | (refine W_appB1 (intEl .i32) hs 2 rfl rfl rfl (by assumption) rfl rfl rfl ⟨by decide, (by first | omega | (simp only [lenS]; omega))⟩ ?_; intro _ _ _ _ _ hs; try simp only [setS] at hs; refine W_norm rfl ?_)
        | (refine W_buildS1 (intEl .u8) hs rfl rfl ?_; intro _ _ _ _ hs; try simp only [setS] at hs; refine W_norm rfl ?_)
      )
    )
    | (refine K_code ?_; first
      | refine W_seq ?_
      | refine W_ops ?_
      | refine W_cond_f rfl ?_
      | (refine W_cond rfl (fun hc => ?_) (fun hc => ?_) <;> (try rw [hc]) <;> (try simp only [cleanS, reduceCtorEq] at hc) <;> (try (exfalso; omega)) <;> (try refine W_norm rfl ?_))
      | refine W_skip ?_
      | refine W_ret ?_
      | refine W_block ?_
      | refine W_draws ?_
    )
    | refine W_dstep rfl ?_
    | refine ⟨rfl, fun rc hrec => ?_⟩
    | (refine W_dnilS (by simp only [List.reverse_cons, List.reverse_nil, List.nil_append, List.cons_append]; rfl) (by repeat' first | exact CL_nil _ _ | refine CL_skip rfl ?_ | refine CL_none (by assumption) rfl ?_ | refine CL_load (by assumption) rfl (by first | exact trivial | (repeat' first | exact trivial | refine ⟨⟨_, rfl, (by refine (congrArg (fun x => Heap.get x _) (RecIs.hh (by assumption))).trans ?_; first | rfl | exact PtR.same_get (by assumption) (by assumption) (by assumption) | exact Sep.same_get (by assumption) (by assumption) 0 0 rfl rfl | exact Sep.same_get (by assumption) (by assumption) 0 1 rfl rfl | exact Sep.same_get (by assumption) (by assumption) 0 2 rfl rfl | exact Sep.same_get (by assumption) (by assumption) 0 3 rfl rfl | exact Sep.same_get (by assumption) (by assumption) 0 4 rfl rfl | exact Sep.same_get (by assumption) (by assumption) 1 0 rfl rfl | exact Sep.same_get (by assumption) (by assumption) 1 1 rfl rfl | exact Sep.same_get (by assumption) (by assumption) 1 2 rfl rfl | exact Sep.same_get (by assumption) (by assumption) 1 3 rfl rfl | exact Sep.same_get (by assumption) (by assumption) 1 4 rfl rfl | exact Sep.same_get (by assumption) (by assumption) 2 0 rfl rfl | exact Sep.same_get (by assumption) (by assumption) 2 1 rfl rfl | exact Sep.same_get (by assumption) (by assumption) 2 2 rfl rfl | exact Sep.same_get (by assumption) (by assumption) 2 3 rfl rfl | exact Sep.same_get (by assumption) (by assumption) 2 4 rfl rfl | exact Sep.same_get (by assumption) (by assumption) 3 0 rfl rfl | exact Sep.same_get (by assumption) (by assumption) 3 1 rfl rfl | exact Sep.same_get (by assumption) (by assumption) 3 2 rfl rfl | exact Sep.same_get (by assumption) (by assumption) 3 3 rfl rfl | exact Sep.same_get (by assumption) (by assumption) 3 4 rfl rfl | exact Sep.same_get (by assumption) (by assumption) 4 0 rfl rfl | exact Sep.same_get (by assumption) (by assumption) 4 1 rfl rfl | exact Sep.same_get (by assumption) (by assumption) 4 2 rfl rfl | exact Sep.same_get (by assumption) (by assumption) 4 3 rfl rfl | exact Sep.same_get (by assumption) (by assumption) 4 4 rfl rfl)⟩, ?_⟩)) (by first | exact trivial | (repeat' first | exact trivial | refine ⟨⟨_, rfl, (by refine (congrArg (fun x => Heap.get x _) (RecIs.hh' (by assumption))).trans ?_; first | rfl | exact PtR.same_get (by assumption) (by assumption) (by assumption) | exact Sep.same_get (by assumption) (by assumption) 0 0 rfl rfl | exact Sep.same_get (by assumption) (by assumption) 0 1 rfl rfl | exact Sep.same_get (by assumption) (by assumption) 0 2 rfl rfl | exact Sep.same_get (by assumption) (by assumption) 0 3 rfl rfl | exact Sep.same_get (by assumption) (by assumption) 0 4 rfl rfl | exact Sep.same_get (by assumption) (by assumption) 1 0 rfl rfl | exact Sep.same_get (by assumption) (by assumption) 1 1 rfl rfl | exact Sep.same_get (by assumption) (by assumption) 1 2 rfl rfl | exact Sep.same_get (by assumption) (by assumption) 1 3 rfl rfl | exact Sep.same_get (by assumption) (by assumption) 1 4 rfl rfl | exact Sep.same_get (by assumption) (by assumption) 2 0 rfl rfl | exact Sep.same_get (by assumption) (by assumption) 2 1 rfl rfl | exact Sep.same_get (by assumption) (by assumption) 2 2 rfl rfl | exact Sep.same_get (by assumption) (by assumption) 2 3 rfl rfl | exact Sep.same_get (by assumption) (by assumption) 2 4 rfl rfl | exact Sep.same_get (by assumption) (by assumption) 3 0 rfl rfl | exact Sep.same_get (by assumption) (by assumption) 3 1 rfl rfl | exact Sep.same_get (by assumption) (by assumption) 3 2 rfl rfl | exact Sep.same_get (by assumption) (by assumption) 3 3 rfl rfl | exact Sep.same_get (by assumption) (by assumption) 3 4 rfl rfl | exact Sep.same_get (by assumption) (by assumption) 4 0 rfl rfl | exact Sep.same_get (by assumption) (by assumption) 4 1 rfl rfl | exact Sep.same_get (by assumption) (by assumption) 4 2 rfl rfl | exact Sep.same_get (by assumption) (by assumption) 4 3 rfl rfl | exact Sep.same_get (by assumption) (by assumption) 4 4 rfl rfl)⟩, ?_⟩)) ?_) ?_)
    | refine seqK_n ?_
    | refine seqK_r ?_
    | refine blockK_r ?_
    | refine blockK_n ?_
    | (refine fnK_r rfl ?_; try dsimp only [gd_z, gd_s]))
  all_goals first
    | rw [bB_0 (by assumption) (by assumption)]
    | rw [bB_n (.inl (by assumption))]
    | rw [bB_n (.inr (by assumption))]
  all_goals first
    | rw [lB_0 (by assumption)]
    | rw [lB_1 (by assumption) (by assumption)]
    | rw [lB_2 (by assumption) (by assumption)]
    | skip
  all_goals first
    | exact ⟨_, rfl, _, _, rfl, by assumption, hs⟩
    | exact ⟨_, rfl, _, _, rfl, by assumption, hs.drop 0⟩
    | exact ⟨_, rfl, _, _, rfl, by assumption, (hs.drop 0).drop 0⟩
    | skip
theorem byteB_short (s : List UInt8) (b : UInt8) : (byteB s b).1.length ≤ 3 ∧ (byteB s b).2.length ≤ 2 := by
  have key : ∀ (t : List UInt8), beginsR (ints t) = 1 → t.length ≤ 3 := by
    intro t ht
    have hsc : ∀ l : List Shp, (∀ p ∈ l, p.length ≤ 4) → scanS (ints t) l = 1 → t.length ≤ 3 := by
      intro l
      induction l with
      | nil => intro _ h; simp [scanS] at h
      | cons p l ih =>
        intro hp h
        rw [scanS] at h
        split at h
        · rename_i hf
          split at h
          · cases h
          · rename_i hne
            have h1 := hp p (by simp)
            rw [ints_length] at hne
            rcases Nat.lt_or_ge p.length t.length with h2 | h2
            · rw [fitL_len (ints t) p (by rw [ints_length]; exact h2)] at hf; cases hf
            · omega
        · exact ih (fun q hq => hp q (by simp [hq])) h
    exact hsc shapesL (by decide) ht
  have hb : ∀ (o : List Int) (t : List UInt8), o.length ≤ 1 → (lastB o t).1.length ≤ 3 ∧ (lastB o t).2.length ≤ 2 := by
    intro o t ho
    unfold lastB
    split
    · simp; omega
    split
    · rename_i h; exact ⟨key t h, by simp; omega⟩
    · simp; omega
  unfold byteB
  split
  · exact hb _ _ (by simp)
  · exact hb _ _ (by simp)
theorem good_of {k r f : Int} {m t : List UInt8} {cp : Hp} {u : SV} {H : List (Hd Int)} {ca : Hp} (hn : NsO (intEl .i64) 3 26 u H ca) (h1 : 0 ≤ f ∧ f < 256) (h2 : m.length ≤ 100000) (h3 : k = 5 → t.length ≤ 15000) (hH : H.length ≤ 16) (hHr : ∀ r ∈ H, r.L.length ≤ 8) : Good (ca ++ (hpOf H ++ cp)) ⟨k, r, f, m, u, t⟩ := by
  refine ⟨h1, h2, h3, pairs H, fun R hR => hn.inR (fun x hx => hR x (by simp [hx])) (fun x hx => hR x (by simp [hx])), by rw [pairs_length]; omega, fun g hg => ?_⟩
  obtain ⟨r, hr, rfl⟩ := List.mem_map.1 hg
  have := hHr r hr
  show r.L.length ≤ 1000000
  omega
theorem w48 {R : Ro} {M : List Hp} {h : Heap} {id : Nat} {st fin : Int} {kept list mids text : List UInt8} {u : SV} {L : List Es} {ct cp : Hp} {b : UInt8} (hs : Sep R ([(id, pzO st kept list mids fin text u)] :: ct :: cp :: M) h) (hu : AccS evE 42 u L ct) (hl : L.length ≤ 1000000) (hg : ∀ x ∈ L, Good cp x) (hf : 0 ≤ fin ∧ fin < 256) (hll : list.length ≤ 100000) (hml : mids.length ≤ 100000) (htl : text.length ≤ 100000) :
    Wc DD 48 [.sc (.ptr id 0), .sc (.int .u8 (b.toNat : Int))] h fun v h' => ∃ u' L' ct' cp', v = .tup [] ∧ AccS evE 42 u' L' ct' ∧ L'.length ≤ L.length + 1 ∧ (∀ x ∈ L', Good cp' x) ∧ Sep R ([(id, pzO st kept list mids fin text u')] :: ct' :: cp' :: M) h' := by
  refine W_enter d48 ?_
  show W _ (.code m48_code [.sc (.ptr id 0), .sc (.int .u8 (b.toNat : Int)), undefA, undefA, undefA, undefA, undefA, undefA, undefA, undefA, undefA, undefA, undefA, undefA, undefA, undefA, undefA, undefA, undefA, undefA, undefA, undefA, undefA, undefA, undefA, undefA, undefA, undefA, undefA, undefA, undefA, undefA, undefA, undefA, undefA, undefA, undefA, undefA, undefA, undefA, undefA, undefA, undefA, undefA, undefA, undefA, undefA, undefA, undefA, undefA, undefA, undefA, undefA, undefA, undefA, undefA, undefA, undefA, undefA, undefA, undefA, undefA, undefA, undefA, undefA, undefA, undefA, undefA, undefA, undefA, undefA, undefA, undefA, undefA, undefA, undefA] _) _
  unfold m48_code
  repeat' (first
    | (refine K_ops ?_; first
      | refine W_fastB rfl ?_
      | refine W_nil ?_
      | (refine K_guard ?_; first
        | refine W_guard_on rfl ?_
        | refine W_guard_off rfl rfl (W_norm rfl ?_)
        | (refine W_guardT rfl (fun hc => ?_) (fun hc => ?_) <;> (try rw [hc]) <;> (try simp only [cleanS, reduceCtorEq] at hc) <;> (try (exfalso; omega)) <;> (try refine W_norm rfl ?_))
        | (refine W_guardF rfl (fun hc => ?_) (fun hc => ?_) <;> (try rw [hc]) <;> (try simp only [cleanS, reduceCtorEq] at hc) <;> (try (exfalso; omega)) <;> (try refine W_norm rfl ?_))
      )
      | (refine K_call ?_; first
        | (refine W_callsN 51 rfl (w51 (s := list) hll) rfl ?_; rintro _ h ⟨u3, H3, ca3, rfl, hn3, hH3, hHr3, t⟩; have hs := hs.call t; try simp only [setS] at hs; refine W_norm rfl ?_)
      )
      | (refine K_pick ?_; first
        | refine W_pick_t rfl rfl (W_norm rfl ?_)
        | refine W_pick_f rfl rfl (W_norm rfl ?_)
      )
      | (refine K_load ?_; first
        | (refine W_loadC hs 0 rfl rfl rfl ?_; refine W_norm rfl ?_)
        | (refine W_loadC hs 2 rfl rfl rfl ?_; refine W_norm rfl ?_)
      )
      | (refine K_store ?_; first
        | (refine W_storeC hs 1 rfl rfl rfl rfl (by first | decide | assumption) rfl rfl ?_; intro _ hs; try simp only [setS] at hs; refine W_norm rfl ?_)
        | (refine W_storeC hs 3 rfl rfl rfl rfl (by first | decide | assumption) rfl rfl ?_; intro _ hs; try simp only [setS] at hs; refine W_norm rfl ?_)
      )
      | (refine K_bslice ?_; first
        | (refine W_buildS1 evE hs rfl rfl ?_; intro _ _ _ _ hs; try simp only [setS] at hs; refine W_norm rfl ?_)
      )
      | (refine K_append ?_; first
        | (refine W_appS hs 2 rfl rfl (by assumption) rfl (by first | assumption | exact SlR.now hs (by assumption) | exact AccS.now (by assumption) hs (by simp) | exact OwnS.now (by assumption) hs (by simp)) rfl ⟨by decide, (by first | omega | (simp only [lenS]; omega))⟩ ?_; intro _ _ _ _ hs; try simp only [setS] at hs; refine W_norm rfl ?_)
        | (refine W_appS hs 4 rfl rfl (by assumption) rfl (by first | assumption | exact SlR.now hs (by assumption) | exact AccS.now (by assumption) hs (by simp) | exact OwnS.now (by assumption) hs (by simp)) rfl ⟨by decide, (by first | omega | (simp only [lenS]; omega))⟩ ?_; intro _ _ _ _ hs; try simp only [setS] at hs; refine W_norm rfl ?_)
      )
      | (refine W_buildN rfl ?_; refine W_norm rfl ?_)
    )
    | (refine K_code ?_; first
      | refine W_seq ?_
      | refine W_ops ?_
      | refine W_cond_t rfl ?_
      | refine W_cond_f rfl ?_
      | (refine W_cond rfl (fun hc => ?_) (fun hc => ?_) <;> (try rw [hc]) <;> (try simp only [cleanS, reduceCtorEq] at hc) <;> (try (exfalso; omega)) <;> (try refine W_norm rfl ?_))
      | refine W_skip ?_
      | refine W_ret ?_
      | refine W_draws ?_
    )
    | refine W_dstep rfl ?_
    | refine ⟨rfl, fun rc hrec => ?_⟩
    | (refine W_dnilS (by simp only [List.reverse_cons, List.reverse_nil, List.nil_append, List.cons_append]; rfl) (by repeat' first | exact CL_nil _ _ | refine CL_skip rfl ?_ | refine CL_none (by assumption) rfl ?_ | refine CL_load (by assumption) rfl (by first | exact trivial | (repeat' first | exact trivial | refine ⟨⟨_, rfl, (by refine (congrArg (fun x => Heap.get x _) (RecIs.hh (by assumption))).trans ?_; first | rfl | exact PtR.same_get (by assumption) (by assumption) (by assumption) | exact Sep.same_get (by assumption) (by assumption) 0 0 rfl rfl | exact Sep.same_get (by assumption) (by assumption) 0 1 rfl rfl | exact Sep.same_get (by assumption) (by assumption) 0 2 rfl rfl | exact Sep.same_get (by assumption) (by assumption) 0 3 rfl rfl | exact Sep.same_get (by assumption) (by assumption) 0 4 rfl rfl | exact Sep.same_get (by assumption) (by assumption) 1 0 rfl rfl | exact Sep.same_get (by assumption) (by assumption) 1 1 rfl rfl | exact Sep.same_get (by assumption) (by assumption) 1 2 rfl rfl | exact Sep.same_get (by assumption) (by assumption) 1 3 rfl rfl | exact Sep.same_get (by assumption) (by assumption) 1 4 rfl rfl | exact Sep.same_get (by assumption) (by assumption) 2 0 rfl rfl | exact Sep.same_get (by assumption) (by assumption) 2 1 rfl rfl | exact Sep.same_get (by assumption) (by assumption) 2 2 rfl rfl | exact Sep.same_get (by assumption) (by assumption) 2 3 rfl rfl | exact Sep.same_get (by assumption) (by assumption) 2 4 rfl rfl | exact Sep.same_get (by assumption) (by assumption) 3 0 rfl rfl | exact Sep.same_get (by assumption) (by assumption) 3 1 rfl rfl | exact Sep.same_get (by assumption) (by assumption) 3 2 rfl rfl | exact Sep.same_get (by assumption) (by assumption) 3 3 rfl rfl | exact Sep.same_get (by assumption) (by assumption) 3 4 rfl rfl | exact Sep.same_get (by assumption) (by assumption) 4 0 rfl rfl | exact Sep.same_get (by assumption) (by assumption) 4 1 rfl rfl | exact Sep.same_get (by assumption) (by assumption) 4 2 rfl rfl | exact Sep.same_get (by assumption) (by assumption) 4 3 rfl rfl | exact Sep.same_get (by assumption) (by assumption) 4 4 rfl rfl)⟩, ?_⟩)) (by first | exact trivial | (repeat' first | exact trivial | refine ⟨⟨_, rfl, (by refine (congrArg (fun x => Heap.get x _) (RecIs.hh' (by assumption))).trans ?_; first | rfl | exact PtR.same_get (by assumption) (by assumption) (by assumption) | exact Sep.same_get (by assumption) (by assumption) 0 0 rfl rfl | exact Sep.same_get (by assumption) (by assumption) 0 1 rfl rfl | exact Sep.same_get (by assumption) (by assumption) 0 2 rfl rfl | exact Sep.same_get (by assumption) (by assumption) 0 3 rfl rfl | exact Sep.same_get (by assumption) (by assumption) 0 4 rfl rfl | exact Sep.same_get (by assumption) (by assumption) 1 0 rfl rfl | exact Sep.same_get (by assumption) (by assumption) 1 1 rfl rfl | exact Sep.same_get (by assumption) (by assumption) 1 2 rfl rfl | exact Sep.same_get (by assumption) (by assumption) 1 3 rfl rfl | exact Sep.same_get (by assumption) (by assumption) 1 4 rfl rfl | exact Sep.same_get (by assumption) (by assumption) 2 0 rfl rfl | exact Sep.same_get (by assumption) (by assumption) 2 1 rfl rfl | exact Sep.same_get (by assumption) (by assumption) 2 2 rfl rfl | exact Sep.same_get (by assumption) (by assumption) 2 3 rfl rfl | exact Sep.same_get (by assumption) (by assumption) 2 4 rfl rfl | exact Sep.same_get (by assumption) (by assumption) 3 0 rfl rfl | exact Sep.same_get (by assumption) (by assumption) 3 1 rfl rfl | exact Sep.same_get (by assumption) (by assumption) 3 2 rfl rfl | exact Sep.same_get (by assumption) (by assumption) 3 3 rfl rfl | exact Sep.same_get (by assumption) (by assumption) 3 4 rfl rfl | exact Sep.same_get (by assumption) (by assumption) 4 0 rfl rfl | exact Sep.same_get (by assumption) (by assumption) 4 1 rfl rfl | exact Sep.same_get (by assumption) (by assumption) 4 2 rfl rfl | exact Sep.same_get (by assumption) (by assumption) 4 3 rfl rfl | exact Sep.same_get (by assumption) (by assumption) 4 4 rfl rfl)⟩, ?_⟩)) ?_) ?_)
    | refine seqK_n ?_
    | refine seqK_r ?_
    | (refine fnK_r rfl ?_; try dsimp only [gd_z, gd_s])
    | (refine fnK_n rfl ?_; try dsimp only [gd_z, gd_s]))
  all_goals first
    | exact ⟨_, rfl, _, _, _, _, rfl, hu, Nat.le_succ _, hg, hs⟩
    | skip
  all_goals first
    | exact ⟨_, rfl, _, _, _, _, rfl, (by assumption), (by rw [List.length_append]; exact Nat.le_refl _), good_all hg (fun _ h => h) (good_nils ⟨by decide, by decide⟩ (by decide) (fun _ => by omega)), hs.drop 0⟩
    | (refine ⟨_, rfl, _, _, _, _, rfl, (by assumption), (by rw [List.length_append]; exact Nat.le_refl _), good_all hg (fun x hx => List.mem_append_right _ (List.mem_append_right _ hx)) (good_of hn3 hf hml (fun h => by cases h) hH3 hHr3), ?_⟩
       unfold pzO
       exact (hs.drop 0).reord (fun a => by simp only [List.flatten_cons, List.flatten_nil, List.count_append, List.count_nil, hpOf_append, hpOf_cons, hpOf_nil, List.append_nil, List.eraseIdx_cons_succ, List.eraseIdx_zero, List.tail_cons] <;> omega))
    | skip
end Go.Proofs.YtggkbkbhegcbkaaDoor
/- The document's parser, walked: a byte. CLNONE -/
set_option linter.unusedSimpArgs false
set_option linter.unusedVariables false
set_option maxHeartbeats 4000000
set_option maxRecDepth 100000
namespace Go.Proofs.YtggkbkbhegcbkaaDoor
open Go Go.Jx

/-- What stands in the parser behind so many bytes. -/
def PzIn (R : Ro) (M : List Hp) (id : Nat) (n e : Nat) (h : Heap) : Prop :=
  ∃ (st fin : Int) (kept list mids text : List UInt8) (u : SV) (L : List Es) (ct cp : Hp), Sep R ([(id, pzO st kept list mids fin text u)] :: ct :: cp :: M) h ∧ AccS evE 42 u L ct ∧ L.length ≤ 8 * n + e ∧ (∀ x ∈ L, Good cp x) ∧ (0 ≤ fin ∧ fin < 256) ∧ kept.length ≤ 3 ∧ list.length ≤ n ∧ mids.length ≤ n ∧ text.length ≤ n

theorem w32_2 {R : Ro} {M : List Hp} {h : Heap} {id n : Nat} {b : UInt8} {nx : Int} {e : List AV} (hz : PzIn R M id n 2 h) (hn : n ≤ 100000) (he : EnvIs 219 [(0, .sc (.ptr id 0)), (1, .sc (.int .u8 (b.toNat : Int))), (4, i64 2), (5, i64 nx)] e) :
    W DD (.code (.seq (.seq (.ops m32_r9) (.block 0 (.seq (.ops m32_r10) (.cond (.t 76) (.seq (.ops m32_r11) (.seq (.ops m32_r12) (.block 1 (.loop m32_l13)))) (.seq (.ops m32_r17) (.cond (.t 95) (.ops m32_r18) (.seq (.ops m32_r19) (.cond (.t 108) (.draw m32_r20) (.seq (.ops m32_r21) (.cond (.t 121) (.draw m32_r22) (.seq (.ops m32_r23) (.cond (.t 134) (.seq (.ops m32_r24) (.cond (.t 152) (.draw m32_r25) .skip)) (.seq (.ops m32_r26) (.cond (.t 168) (.seq (.ops m32_r27) (.cond (.t 175) (.draw m32_r28) .skip)) (.seq (.ops m32_r29) (.cond (.t 196) (.ops m32_r30) (.seq (.ops m32_r31) (.cond (.t 202) (.draw m32_r32) .skip)))))))))))))))))) (.ops m32_r33)) e h)
      (fnK m32 fun _ vs h' => ∃ v, vs = [v] ∧ v = .tup [] ∧ PzIn R M id (n + 1) 0 h') := by
  obtain ⟨us, rfl⟩ := he.list
  obtain ⟨st, fin, kept, list, mids, text, u, L, ct, cp, hs, hu, hL, hg, hf, hk, hll, hml, htl⟩ := hz
  have hb0 := b.toNat_lt
  repeat' (first
    | (refine K_ops ?_; first
      | refine W_fastB rfl ?_
      | refine W_nil ?_
      | (refine K_load ?_; first
        | (refine W_loadC hs 0 rfl rfl rfl ?_; refine W_norm rfl ?_)
      )
      | (refine K_store ?_; first
        | (refine W_storeC hs 0 rfl rfl rfl rfl (by first | decide | assumption) rfl rfl ?_; intro _ hs; try simp only [setS] at hs; refine W_norm rfl ?_)
      )
      | (refine K_bslice ?_; first
        | (refine W_appB1 evE hs 1 rfl rfl rfl (by assumption) rfl rfl rfl ⟨by decide, (by first | omega | (simp only [lenS]; omega))⟩ ?_; intro _ _ _ _ _ hs; try simp only [setS] at hs; refine W_norm rfl ?_)
      )
      | (refine W_buildN rfl ?_; refine W_norm rfl ?_)
    )
    | (refine K_code ?_; first
      | refine W_seq ?_
      | refine W_ops ?_
      | refine W_cond_t rfl ?_
      | refine W_cond_f rfl ?_
      | refine W_block ?_
    )
    | refine seqK_n ?_
    | refine blockK_n ?_
    | (refine fnK_n rfl ?_; try dsimp only [gd_z, gd_s]))
  all_goals first
    | (refine ⟨_, rfl, rfl, _, _, _, _, _, _, _, _, _, _, hs, (by assumption), ?_, (good_all hg (fun _ h => h) (good_nils ⟨by omega, by omega⟩ (by first | decide | omega) (fun h => by cases h))), ?_, ?_, ?_, ?_, ?_⟩ <;> (first | omega | (simp only [List.length_append, List.length_cons, List.length_nil]; omega)))
    | (refine ⟨_, rfl, rfl, _, _, _, _, _, _, _, _, _, _, (hs.drop 0), (by assumption), ?_, (good_all hg (fun _ h => h) (good_nils ⟨by omega, by omega⟩ (by first | decide | omega) (fun h => by cases h))), ?_, ?_, ?_, ?_, ?_⟩ <;> (first | omega | (simp only [List.length_append, List.length_cons, List.length_nil]; omega)))
    | skip
theorem w32_3 {R : Ro} {M : List Hp} {h : Heap} {id n : Nat} {b : UInt8} {nx : Int} {e : List AV} (hz : PzIn R M id n 2 h) (hn : n ≤ 100000) (he : EnvIs 219 [(0, .sc (.ptr id 0)), (1, .sc (.int .u8 (b.toNat : Int))), (4, i64 3), (5, i64 nx)] e) :
    W DD (.code (.seq (.seq (.ops m32_r9) (.block 0 (.seq (.ops m32_r10) (.cond (.t 76) (.seq (.ops m32_r11) (.seq (.ops m32_r12) (.block 1 (.loop m32_l13)))) (.seq (.ops m32_r17) (.cond (.t 95) (.ops m32_r18) (.seq (.ops m32_r19) (.cond (.t 108) (.draw m32_r20) (.seq (.ops m32_r21) (.cond (.t 121) (.draw m32_r22) (.seq (.ops m32_r23) (.cond (.t 134) (.seq (.ops m32_r24) (.cond (.t 152) (.draw m32_r25) .skip)) (.seq (.ops m32_r26) (.cond (.t 168) (.seq (.ops m32_r27) (.cond (.t 175) (.draw m32_r28) .skip)) (.seq (.ops m32_r29) (.cond (.t 196) (.ops m32_r30) (.seq (.ops m32_r31) (.cond (.t 202) (.draw m32_r32) .skip)))))))))))))))))) (.ops m32_r33)) e h)
      (fnK m32 fun _ vs h' => ∃ v, vs = [v] ∧ v = .tup [] ∧ PzIn R M id (n + 1) 0 h') := by
  obtain ⟨us, rfl⟩ := he.list
  obtain ⟨st, fin, kept, list, mids, text, u, L, ct, cp, hs, hu, hL, hg, hf, hk, hll, hml, htl⟩ := hz
  have hb0 := b.toNat_lt
  repeat' (first
    | (refine K_ops ?_; first
      | refine W_fastB rfl ?_
      | refine W_nil ?_
      | (refine W_bytesStr (L := [b]) (bytes_of (AccS.now (by assumption) hs (by simp))) rfl ?_; refine W_norm rfl ?_)
      | (refine K_bin ?_; first
        | (refine W_cat rfl rfl (by first | omega | (simp only [lenS]; omega)) ?_; refine W_norm rfl ?_)
      )
      | (refine K_load ?_; first
        | (refine W_loadC hs 0 rfl rfl rfl ?_; refine W_norm rfl ?_)
      )
      | (refine K_store ?_; first
        | (refine W_storeC hs 1 rfl rfl rfl rfl (by first | decide | assumption) rfl rfl ?_; intro _ hs; try simp only [setS] at hs; refine W_norm rfl ?_)
      )
      | (refine K_bslice ?_; first
        | (refine W_buildS1 (intEl .u8) hs rfl rfl ?_; intro _ _ _ _ hs; try simp only [setS] at hs; refine W_norm rfl ?_)
      )
    )
    | (refine K_code ?_; first
      | refine W_seq ?_
      | refine W_ops ?_
      | refine W_cond_t rfl ?_
      | refine W_cond_f rfl ?_
      | refine W_block ?_
      | refine W_draws ?_
    )
    | refine W_dstep rfl ?_
    | refine ⟨rfl, fun rc hrec => ?_⟩
    | (refine W_dnilS (by simp only [List.reverse_cons, List.reverse_nil, List.nil_append, List.cons_append]; rfl) (by repeat' first | exact CL_nil _ _ | refine CL_skip rfl ?_ | refine CL_none (by assumption) rfl ?_ | refine CL_load (by assumption) rfl (by first | exact trivial | (repeat' first | exact trivial | refine ⟨⟨_, rfl, (by refine (congrArg (fun x => Heap.get x _) (RecIs.hh (by assumption))).trans ?_; first | rfl | exact PtR.same_get (by assumption) (by assumption) (by assumption) | exact Sep.same_get (by assumption) (by assumption) 0 0 rfl rfl | exact Sep.same_get (by assumption) (by assumption) 0 1 rfl rfl | exact Sep.same_get (by assumption) (by assumption) 0 2 rfl rfl | exact Sep.same_get (by assumption) (by assumption) 0 3 rfl rfl | exact Sep.same_get (by assumption) (by assumption) 1 0 rfl rfl | exact Sep.same_get (by assumption) (by assumption) 1 1 rfl rfl | exact Sep.same_get (by assumption) (by assumption) 1 2 rfl rfl | exact Sep.same_get (by assumption) (by assumption) 1 3 rfl rfl | exact Sep.same_get (by assumption) (by assumption) 2 0 rfl rfl | exact Sep.same_get (by assumption) (by assumption) 2 1 rfl rfl | exact Sep.same_get (by assumption) (by assumption) 2 2 rfl rfl | exact Sep.same_get (by assumption) (by assumption) 2 3 rfl rfl | exact Sep.same_get (by assumption) (by assumption) 3 0 rfl rfl | exact Sep.same_get (by assumption) (by assumption) 3 1 rfl rfl | exact Sep.same_get (by assumption) (by assumption) 3 2 rfl rfl | exact Sep.same_get (by assumption) (by assumption) 3 3 rfl rfl)⟩, ?_⟩)) (by first | exact trivial | (repeat' first | exact trivial | refine ⟨⟨_, rfl, (by refine (congrArg (fun x => Heap.get x _) (RecIs.hh' (by assumption))).trans ?_; first | rfl | exact PtR.same_get (by assumption) (by assumption) (by assumption) | exact Sep.same_get (by assumption) (by assumption) 0 0 rfl rfl | exact Sep.same_get (by assumption) (by assumption) 0 1 rfl rfl | exact Sep.same_get (by assumption) (by assumption) 0 2 rfl rfl | exact Sep.same_get (by assumption) (by assumption) 0 3 rfl rfl | exact Sep.same_get (by assumption) (by assumption) 1 0 rfl rfl | exact Sep.same_get (by assumption) (by assumption) 1 1 rfl rfl | exact Sep.same_get (by assumption) (by assumption) 1 2 rfl rfl | exact Sep.same_get (by assumption) (by assumption) 1 3 rfl rfl | exact Sep.same_get (by assumption) (by assumption) 2 0 rfl rfl | exact Sep.same_get (by assumption) (by assumption) 2 1 rfl rfl | exact Sep.same_get (by assumption) (by assumption) 2 2 rfl rfl | exact Sep.same_get (by assumption) (by assumption) 2 3 rfl rfl | exact Sep.same_get (by assumption) (by assumption) 3 0 rfl rfl | exact Sep.same_get (by assumption) (by assumption) 3 1 rfl rfl | exact Sep.same_get (by assumption) (by assumption) 3 2 rfl rfl | exact Sep.same_get (by assumption) (by assumption) 3 3 rfl rfl)⟩, ?_⟩)) ?_) ?_)
    | refine seqK_n ?_
    | refine blockK_n ?_
    | (refine fnK_n rfl ?_; try dsimp only [gd_z, gd_s]))
  all_goals first
    | (refine ⟨_, rfl, rfl, _, _, _, _, _, _, _, _, _, _, hs, hu, ?_, hg, ?_, ?_, ?_, ?_, ?_⟩ <;> (first | omega | (simp only [List.length_append, List.length_cons, List.length_nil]; omega)))
    | (refine ⟨_, rfl, rfl, _, _, _, _, _, _, _, _, _, _, (hs.drop 0), hu, ?_, hg, ?_, ?_, ?_, ?_, ?_⟩ <;> (first | omega | (simp only [List.length_append, List.length_cons, List.length_nil]; omega)))
    | skip
theorem w32_4 {R : Ro} {M : List Hp} {h : Heap} {id n : Nat} {b : UInt8} {nx : Int} {e : List AV} (hz : PzIn R M id n 2 h) (hn : n ≤ 100000) (he : EnvIs 219 [(0, .sc (.ptr id 0)), (1, .sc (.int .u8 (b.toNat : Int))), (4, i64 4), (5, i64 nx)] e) :
    W DD (.code (.seq (.seq (.ops m32_r9) (.block 0 (.seq (.ops m32_r10) (.cond (.t 76) (.seq (.ops m32_r11) (.seq (.ops m32_r12) (.block 1 (.loop m32_l13)))) (.seq (.ops m32_r17) (.cond (.t 95) (.ops m32_r18) (.seq (.ops m32_r19) (.cond (.t 108) (.draw m32_r20) (.seq (.ops m32_r21) (.cond (.t 121) (.draw m32_r22) (.seq (.ops m32_r23) (.cond (.t 134) (.seq (.ops m32_r24) (.cond (.t 152) (.draw m32_r25) .skip)) (.seq (.ops m32_r26) (.cond (.t 168) (.seq (.ops m32_r27) (.cond (.t 175) (.draw m32_r28) .skip)) (.seq (.ops m32_r29) (.cond (.t 196) (.ops m32_r30) (.seq (.ops m32_r31) (.cond (.t 202) (.draw m32_r32) .skip)))))))))))))))))) (.ops m32_r33)) e h)
      (fnK m32 fun _ vs h' => ∃ v, vs = [v] ∧ v = .tup [] ∧ PzIn R M id (n + 1) 0 h') := by
  obtain ⟨us, rfl⟩ := he.list
  obtain ⟨st, fin, kept, list, mids, text, u, L, ct, cp, hs, hu, hL, hg, hf, hk, hll, hml, htl⟩ := hz
  have hb0 := b.toNat_lt
  repeat' (first
    | (refine K_ops ?_; first
      | refine W_fastB rfl ?_
      | refine W_nil ?_
      | (refine W_bytesStr (L := [b]) (bytes_of (AccS.now (by assumption) hs (by simp))) rfl ?_; refine W_norm rfl ?_)
      | (refine K_bin ?_; first
        | (refine W_cat rfl rfl (by first | omega | (simp only [lenS]; omega)) ?_; refine W_norm rfl ?_)
      )
      | (refine K_load ?_; first
        | (refine W_loadC hs 0 rfl rfl rfl ?_; refine W_norm rfl ?_)
      )
      | (refine K_store ?_; first
        | (refine W_storeC hs 1 rfl rfl rfl rfl (by first | decide | assumption) rfl rfl ?_; intro _ hs; try simp only [setS] at hs; refine W_norm rfl ?_)
      )
      | (refine K_bslice ?_; first
        | (refine W_buildS1 (intEl .u8) hs rfl rfl ?_; intro _ _ _ _ hs; try simp only [setS] at hs; refine W_norm rfl ?_)
      )
    )
    | (refine K_code ?_; first
      | refine W_seq ?_
      | refine W_ops ?_
      | refine W_cond_t rfl ?_
      | refine W_cond_f rfl ?_
      | refine W_block ?_
      | refine W_draws ?_
    )
    | refine W_dstep rfl ?_
    | refine ⟨rfl, fun rc hrec => ?_⟩
    | (refine W_dnilS (by simp only [List.reverse_cons, List.reverse_nil, List.nil_append, List.cons_append]; rfl) (by repeat' first | exact CL_nil _ _ | refine CL_skip rfl ?_ | refine CL_none (by assumption) rfl ?_ | refine CL_load (by assumption) rfl (by first | exact trivial | (repeat' first | exact trivial | refine ⟨⟨_, rfl, (by refine (congrArg (fun x => Heap.get x _) (RecIs.hh (by assumption))).trans ?_; first | rfl | exact PtR.same_get (by assumption) (by assumption) (by assumption) | exact Sep.same_get (by assumption) (by assumption) 0 0 rfl rfl | exact Sep.same_get (by assumption) (by assumption) 0 1 rfl rfl | exact Sep.same_get (by assumption) (by assumption) 0 2 rfl rfl | exact Sep.same_get (by assumption) (by assumption) 0 3 rfl rfl | exact Sep.same_get (by assumption) (by assumption) 1 0 rfl rfl | exact Sep.same_get (by assumption) (by assumption) 1 1 rfl rfl | exact Sep.same_get (by assumption) (by assumption) 1 2 rfl rfl | exact Sep.same_get (by assumption) (by assumption) 1 3 rfl rfl | exact Sep.same_get (by assumption) (by assumption) 2 0 rfl rfl | exact Sep.same_get (by assumption) (by assumption) 2 1 rfl rfl | exact Sep.same_get (by assumption) (by assumption) 2 2 rfl rfl | exact Sep.same_get (by assumption) (by assumption) 2 3 rfl rfl | exact Sep.same_get (by assumption) (by assumption) 3 0 rfl rfl | exact Sep.same_get (by assumption) (by assumption) 3 1 rfl rfl | exact Sep.same_get (by assumption) (by assumption) 3 2 rfl rfl | exact Sep.same_get (by assumption) (by assumption) 3 3 rfl rfl)⟩, ?_⟩)) (by first | exact trivial | (repeat' first | exact trivial | refine ⟨⟨_, rfl, (by refine (congrArg (fun x => Heap.get x _) (RecIs.hh' (by assumption))).trans ?_; first | rfl | exact PtR.same_get (by assumption) (by assumption) (by assumption) | exact Sep.same_get (by assumption) (by assumption) 0 0 rfl rfl | exact Sep.same_get (by assumption) (by assumption) 0 1 rfl rfl | exact Sep.same_get (by assumption) (by assumption) 0 2 rfl rfl | exact Sep.same_get (by assumption) (by assumption) 0 3 rfl rfl | exact Sep.same_get (by assumption) (by assumption) 1 0 rfl rfl | exact Sep.same_get (by assumption) (by assumption) 1 1 rfl rfl | exact Sep.same_get (by assumption) (by assumption) 1 2 rfl rfl | exact Sep.same_get (by assumption) (by assumption) 1 3 rfl rfl | exact Sep.same_get (by assumption) (by assumption) 2 0 rfl rfl | exact Sep.same_get (by assumption) (by assumption) 2 1 rfl rfl | exact Sep.same_get (by assumption) (by assumption) 2 2 rfl rfl | exact Sep.same_get (by assumption) (by assumption) 2 3 rfl rfl | exact Sep.same_get (by assumption) (by assumption) 3 0 rfl rfl | exact Sep.same_get (by assumption) (by assumption) 3 1 rfl rfl | exact Sep.same_get (by assumption) (by assumption) 3 2 rfl rfl | exact Sep.same_get (by assumption) (by assumption) 3 3 rfl rfl)⟩, ?_⟩)) ?_) ?_)
    | refine seqK_n ?_
    | refine blockK_n ?_
    | (refine fnK_n rfl ?_; try dsimp only [gd_z, gd_s]))
  all_goals first
    | (refine ⟨_, rfl, rfl, _, _, _, _, _, _, _, _, _, _, hs, hu, ?_, hg, ?_, ?_, ?_, ?_, ?_⟩ <;> (first | omega | (simp only [List.length_append, List.length_cons, List.length_nil]; omega)))
    | (refine ⟨_, rfl, rfl, _, _, _, _, _, _, _, _, _, _, (hs.drop 0), hu, ?_, hg, ?_, ?_, ?_, ?_, ?_⟩ <;> (first | omega | (simp only [List.length_append, List.length_cons, List.length_nil]; omega)))
    | skip
theorem w32_8 {R : Ro} {M : List Hp} {h : Heap} {id n : Nat} {b : UInt8} {nx : Int} {e : List AV} (hz : PzIn R M id n 2 h) (hn : n ≤ 100000) (he : EnvIs 219 [(0, .sc (.ptr id 0)), (1, .sc (.int .u8 (b.toNat : Int))), (4, i64 8), (5, i64 nx)] e) :
    W DD (.code (.seq (.seq (.ops m32_r9) (.block 0 (.seq (.ops m32_r10) (.cond (.t 76) (.seq (.ops m32_r11) (.seq (.ops m32_r12) (.block 1 (.loop m32_l13)))) (.seq (.ops m32_r17) (.cond (.t 95) (.ops m32_r18) (.seq (.ops m32_r19) (.cond (.t 108) (.draw m32_r20) (.seq (.ops m32_r21) (.cond (.t 121) (.draw m32_r22) (.seq (.ops m32_r23) (.cond (.t 134) (.seq (.ops m32_r24) (.cond (.t 152) (.draw m32_r25) .skip)) (.seq (.ops m32_r26) (.cond (.t 168) (.seq (.ops m32_r27) (.cond (.t 175) (.draw m32_r28) .skip)) (.seq (.ops m32_r29) (.cond (.t 196) (.ops m32_r30) (.seq (.ops m32_r31) (.cond (.t 202) (.draw m32_r32) .skip)))))))))))))))))) (.ops m32_r33)) e h)
      (fnK m32 fun _ vs h' => ∃ v, vs = [v] ∧ v = .tup [] ∧ PzIn R M id (n + 1) 0 h') := by
  obtain ⟨us, rfl⟩ := he.list
  obtain ⟨st, fin, kept, list, mids, text, u, L, ct, cp, hs, hu, hL, hg, hf, hk, hll, hml, htl⟩ := hz
  have hb0 := b.toNat_lt
  repeat' (first
    | (refine K_ops ?_; first
      | refine W_fastB rfl ?_
      | refine W_nil ?_
      | (refine W_bytesStr (L := [b]) (bytes_of (AccS.now (by assumption) hs (by simp))) rfl ?_; refine W_norm rfl ?_)
      | (refine K_bin ?_; first
        | (refine W_cat rfl rfl (by first | omega | (simp only [lenS]; omega)) ?_; refine W_norm rfl ?_)
      )
      | (refine K_load ?_; first
        | (refine W_loadC hs 0 rfl rfl rfl ?_; refine W_norm rfl ?_)
      )
      | (refine K_store ?_; first
        | (refine W_storeC hs 1 rfl rfl rfl rfl (by first | decide | assumption) rfl rfl ?_; intro _ hs; try simp only [setS] at hs; refine W_norm rfl ?_)
      )
      | (refine K_bslice ?_; first
        | (refine W_buildS1 (intEl .u8) hs rfl rfl ?_; intro _ _ _ _ hs; try simp only [setS] at hs; refine W_norm rfl ?_)
      )
    )
    | (refine K_code ?_; first
      | refine W_seq ?_
      | refine W_ops ?_
      | refine W_cond_t rfl ?_
      | refine W_cond_f rfl ?_
      | refine W_block ?_
      | refine W_draws ?_
    )
    | refine W_dstep rfl ?_
    | refine ⟨rfl, fun rc hrec => ?_⟩
    | (refine W_dnilS (by simp only [List.reverse_cons, List.reverse_nil, List.nil_append, List.cons_append]; rfl) (by repeat' first | exact CL_nil _ _ | refine CL_skip rfl ?_ | refine CL_none (by assumption) rfl ?_ | refine CL_load (by assumption) rfl (by first | exact trivial | (repeat' first | exact trivial | refine ⟨⟨_, rfl, (by refine (congrArg (fun x => Heap.get x _) (RecIs.hh (by assumption))).trans ?_; first | rfl | exact PtR.same_get (by assumption) (by assumption) (by assumption) | exact Sep.same_get (by assumption) (by assumption) 0 0 rfl rfl | exact Sep.same_get (by assumption) (by assumption) 0 1 rfl rfl | exact Sep.same_get (by assumption) (by assumption) 0 2 rfl rfl | exact Sep.same_get (by assumption) (by assumption) 0 3 rfl rfl | exact Sep.same_get (by assumption) (by assumption) 1 0 rfl rfl | exact Sep.same_get (by assumption) (by assumption) 1 1 rfl rfl | exact Sep.same_get (by assumption) (by assumption) 1 2 rfl rfl | exact Sep.same_get (by assumption) (by assumption) 1 3 rfl rfl | exact Sep.same_get (by assumption) (by assumption) 2 0 rfl rfl | exact Sep.same_get (by assumption) (by assumption) 2 1 rfl rfl | exact Sep.same_get (by assumption) (by assumption) 2 2 rfl rfl | exact Sep.same_get (by assumption) (by assumption) 2 3 rfl rfl | exact Sep.same_get (by assumption) (by assumption) 3 0 rfl rfl | exact Sep.same_get (by assumption) (by assumption) 3 1 rfl rfl | exact Sep.same_get (by assumption) (by assumption) 3 2 rfl rfl | exact Sep.same_get (by assumption) (by assumption) 3 3 rfl rfl)⟩, ?_⟩)) (by first | exact trivial | (repeat' first | exact trivial | refine ⟨⟨_, rfl, (by refine (congrArg (fun x => Heap.get x _) (RecIs.hh' (by assumption))).trans ?_; first | rfl | exact PtR.same_get (by assumption) (by assumption) (by assumption) | exact Sep.same_get (by assumption) (by assumption) 0 0 rfl rfl | exact Sep.same_get (by assumption) (by assumption) 0 1 rfl rfl | exact Sep.same_get (by assumption) (by assumption) 0 2 rfl rfl | exact Sep.same_get (by assumption) (by assumption) 0 3 rfl rfl | exact Sep.same_get (by assumption) (by assumption) 1 0 rfl rfl | exact Sep.same_get (by assumption) (by assumption) 1 1 rfl rfl | exact Sep.same_get (by assumption) (by assumption) 1 2 rfl rfl | exact Sep.same_get (by assumption) (by assumption) 1 3 rfl rfl | exact Sep.same_get (by assumption) (by assumption) 2 0 rfl rfl | exact Sep.same_get (by assumption) (by assumption) 2 1 rfl rfl | exact Sep.same_get (by assumption) (by assumption) 2 2 rfl rfl | exact Sep.same_get (by assumption) (by assumption) 2 3 rfl rfl | exact Sep.same_get (by assumption) (by assumption) 3 0 rfl rfl | exact Sep.same_get (by assumption) (by assumption) 3 1 rfl rfl | exact Sep.same_get (by assumption) (by assumption) 3 2 rfl rfl | exact Sep.same_get (by assumption) (by assumption) 3 3 rfl rfl)⟩, ?_⟩)) ?_) ?_)
    | refine seqK_n ?_
    | refine blockK_n ?_
    | (refine fnK_n rfl ?_; try dsimp only [gd_z, gd_s]))
  all_goals first
    | (refine ⟨_, rfl, rfl, _, _, _, _, _, _, _, _, _, _, hs, hu, ?_, hg, ?_, ?_, ?_, ?_, ?_⟩ <;> (first | omega | (simp only [List.length_append, List.length_cons, List.length_nil]; omega)))
    | (refine ⟨_, rfl, rfl, _, _, _, _, _, _, _, _, _, _, (hs.drop 0), hu, ?_, hg, ?_, ?_, ?_, ?_, ?_⟩ <;> (first | omega | (simp only [List.length_append, List.length_cons, List.length_nil]; omega)))
    | skip
end Go.Proofs.YtggkbkbhegcbkaaDoor
/- The document's parser, walked: a byte. CLNONE -/
set_option linter.unusedSimpArgs false
set_option linter.unusedVariables false
set_option maxHeartbeats 4000000
set_option maxRecDepth 100000
namespace Go.Proofs.YtggkbkbhegcbkaaDoor
open Go Go.Jx

theorem w32_5 {R : Ro} {M : List Hp} {h : Heap} {id n : Nat} {b : UInt8} {nx : Int} {e : List AV} (hz : PzIn R M id n 2 h) (hn : n ≤ 100000) (he : EnvIs 219 [(0, .sc (.ptr id 0)), (1, .sc (.int .u8 (b.toNat : Int))), (4, i64 5), (5, i64 nx)] e) :
    W DD (.code (.seq (.seq (.ops m32_r9) (.block 0 (.seq (.ops m32_r10) (.cond (.t 76) (.seq (.ops m32_r11) (.seq (.ops m32_r12) (.block 1 (.loop m32_l13)))) (.seq (.ops m32_r17) (.cond (.t 95) (.ops m32_r18) (.seq (.ops m32_r19) (.cond (.t 108) (.draw m32_r20) (.seq (.ops m32_r21) (.cond (.t 121) (.draw m32_r22) (.seq (.ops m32_r23) (.cond (.t 134) (.seq (.ops m32_r24) (.cond (.t 152) (.draw m32_r25) .skip)) (.seq (.ops m32_r26) (.cond (.t 168) (.seq (.ops m32_r27) (.cond (.t 175) (.draw m32_r28) .skip)) (.seq (.ops m32_r29) (.cond (.t 196) (.ops m32_r30) (.seq (.ops m32_r31) (.cond (.t 202) (.draw m32_r32) .skip)))))))))))))))))) (.ops m32_r33)) e h)
      (fnK m32 fun _ vs h' => ∃ v, vs = [v] ∧ v = .tup [] ∧ PzIn R M id (n + 1) 0 h') := by
  obtain ⟨us, rfl⟩ := he.list
  obtain ⟨st, fin, kept, list, mids, text, u, L, ct, cp, hs, hu, hL, hg, hf, hk, hll, hml, htl⟩ := hz
  have hb0 := b.toNat_lt
  repeat' (first
    | (refine K_ops ?_; first
      | refine W_fastB rfl ?_
      | refine W_nil ?_
      | (refine K_guard ?_; first
        | refine W_guard_on rfl ?_
        | refine W_guard_off rfl rfl (W_norm rfl ?_)
        | refine W_guard_u rfl (W_norm rfl ?_)
        | (refine W_guardT rfl (fun hc => ?_) (fun hc => ?_) <;> (try rw [hc]) <;> (try simp only [cleanS, reduceCtorEq] at hc) <;> (try (exfalso; omega)) <;> (try refine W_norm rfl ?_))
        | (refine W_guardF rfl (fun hc => ?_) (fun hc => ?_) <;> (try rw [hc]) <;> (try simp only [cleanS, reduceCtorEq] at hc) <;> (try (exfalso; omega)) <;> (try refine W_norm rfl ?_))
      )
      | (refine K_pick ?_; first
        | refine W_pick_t rfl rfl (W_norm rfl ?_)
        | refine W_pick_f rfl rfl (W_norm rfl ?_)
      )
      | (refine K_load ?_; first
        | (refine W_loadC hs 0 rfl rfl rfl ?_; refine W_norm rfl ?_)
      )
      | (refine K_store ?_; first
        | (refine W_storeC hs 0 rfl rfl rfl rfl (by first | decide | assumption) rfl rfl ?_; intro _ hs; try simp only [setS] at hs; refine W_norm rfl ?_)
        | (refine W_storeC hs 1 rfl rfl rfl rfl (by first | decide | assumption) rfl rfl ?_; intro _ hs; try simp only [setS] at hs; refine W_norm rfl ?_)
      )
      | (refine K_bslice ?_; first
        | (refine W_buildS1 evE hs rfl rfl ?_; intro _ _ _ _ hs; try simp only [setS] at hs; refine W_norm rfl ?_)
      )
      | (refine K_append ?_; first
        | (refine W_appS hs 2 rfl rfl (by assumption) rfl (by first | assumption | exact SlR.now hs (by assumption) | exact AccS.now (by assumption) hs (by simp) | exact OwnS.now (by assumption) hs (by simp)) rfl ⟨by decide, (by first | omega | (simp only [lenS]; omega))⟩ ?_; intro _ _ _ _ hs; try simp only [setS] at hs; refine W_norm rfl ?_)
      )
      | (refine W_buildN rfl ?_; refine W_norm rfl ?_)
    )
    | (refine K_code ?_; first
      | refine W_seq ?_
      | refine W_ops ?_
      | refine W_cond_t rfl ?_
      | refine W_cond_f rfl ?_
      | (refine W_cond rfl (fun hc => ?_) (fun hc => ?_) <;> (try rw [hc]) <;> (try simp only [cleanS, reduceCtorEq] at hc) <;> (try (exfalso; omega)) <;> (try refine W_norm rfl ?_))
      | refine W_skip ?_
      | refine W_block ?_
      | refine W_draws ?_
    )
    | refine W_dstep rfl ?_
    | refine ⟨rfl, fun rc hrec => ?_⟩
    | (refine W_dnilS (by simp only [List.reverse_cons, List.reverse_nil, List.nil_append, List.cons_append]; rfl) (by repeat' first | exact CL_nil _ _ | refine CL_skip rfl ?_ | refine CL_none (by assumption) rfl ?_ | refine CL_load (by assumption) rfl (by first | exact trivial | (repeat' first | exact trivial | refine ⟨⟨_, rfl, (by refine (congrArg (fun x => Heap.get x _) (RecIs.hh (by assumption))).trans ?_; first | rfl | exact PtR.same_get (by assumption) (by assumption) (by assumption) | exact Sep.same_get (by assumption) (by assumption) 0 0 rfl rfl | exact Sep.same_get (by assumption) (by assumption) 0 1 rfl rfl | exact Sep.same_get (by assumption) (by assumption) 0 2 rfl rfl | exact Sep.same_get (by assumption) (by assumption) 0 3 rfl rfl | exact Sep.same_get (by assumption) (by assumption) 1 0 rfl rfl | exact Sep.same_get (by assumption) (by assumption) 1 1 rfl rfl | exact Sep.same_get (by assumption) (by assumption) 1 2 rfl rfl | exact Sep.same_get (by assumption) (by assumption) 1 3 rfl rfl | exact Sep.same_get (by assumption) (by assumption) 2 0 rfl rfl | exact Sep.same_get (by assumption) (by assumption) 2 1 rfl rfl | exact Sep.same_get (by assumption) (by assumption) 2 2 rfl rfl | exact Sep.same_get (by assumption) (by assumption) 2 3 rfl rfl | exact Sep.same_get (by assumption) (by assumption) 3 0 rfl rfl | exact Sep.same_get (by assumption) (by assumption) 3 1 rfl rfl | exact Sep.same_get (by assumption) (by assumption) 3 2 rfl rfl | exact Sep.same_get (by assumption) (by assumption) 3 3 rfl rfl)⟩, ?_⟩)) (by first | exact trivial | (repeat' first | exact trivial | refine ⟨⟨_, rfl, (by refine (congrArg (fun x => Heap.get x _) (RecIs.hh' (by assumption))).trans ?_; first | rfl | exact PtR.same_get (by assumption) (by assumption) (by assumption) | exact Sep.same_get (by assumption) (by assumption) 0 0 rfl rfl | exact Sep.same_get (by assumption) (by assumption) 0 1 rfl rfl | exact Sep.same_get (by assumption) (by assumption) 0 2 rfl rfl | exact Sep.same_get (by assumption) (by assumption) 0 3 rfl rfl | exact Sep.same_get (by assumption) (by assumption) 1 0 rfl rfl | exact Sep.same_get (by assumption) (by assumption) 1 1 rfl rfl | exact Sep.same_get (by assumption) (by assumption) 1 2 rfl rfl | exact Sep.same_get (by assumption) (by assumption) 1 3 rfl rfl | exact Sep.same_get (by assumption) (by assumption) 2 0 rfl rfl | exact Sep.same_get (by assumption) (by assumption) 2 1 rfl rfl | exact Sep.same_get (by assumption) (by assumption) 2 2 rfl rfl | exact Sep.same_get (by assumption) (by assumption) 2 3 rfl rfl | exact Sep.same_get (by assumption) (by assumption) 3 0 rfl rfl | exact Sep.same_get (by assumption) (by assumption) 3 1 rfl rfl | exact Sep.same_get (by assumption) (by assumption) 3 2 rfl rfl | exact Sep.same_get (by assumption) (by assumption) 3 3 rfl rfl)⟩, ?_⟩)) ?_) ?_)
    | refine seqK_n ?_
    | refine blockK_n ?_
    | (refine fnK_n rfl ?_; try dsimp only [gd_z, gd_s]))
  all_goals first
    | (refine ⟨_, rfl, rfl, _, _, _, _, _, _, _, _, _, _, hs, (by assumption), ?_, (good_all hg (fun _ h => h) (good_nils ⟨by omega, by omega⟩ (by first | decide | omega) (fun h => by cases h))), ?_, ?_, ?_, ?_, ?_⟩ <;> (first | omega | (simp only [List.length_append, List.length_cons, List.length_nil]; omega)))
    | (refine ⟨_, rfl, rfl, _, _, _, _, _, _, _, _, _, _, (hs.drop 0), (by assumption), ?_, (good_all hg (fun _ h => h) (good_nils ⟨by omega, by omega⟩ (by first | decide | omega) (fun h => by cases h))), ?_, ?_, ?_, ?_, ?_⟩ <;> (first | omega | (simp only [List.length_append, List.length_cons, List.length_nil]; omega)))
    | (refine ⟨_, rfl, rfl, _, _, _, _, _, _, _, _, _, _, hs, hu, ?_, hg, ?_, ?_, ?_, ?_, ?_⟩ <;> (first | omega | (simp only [List.length_append, List.length_cons, List.length_nil]; omega)))
    | (refine ⟨_, rfl, rfl, _, _, _, _, _, _, _, _, _, _, (hs.drop 0), hu, ?_, hg, ?_, ?_, ?_, ?_, ?_⟩ <;> (first | omega | (simp only [List.length_append, List.length_cons, List.length_nil]; omega)))
    | skip
theorem w32_6 {R : Ro} {M : List Hp} {h : Heap} {id n : Nat} {b : UInt8} {nx : Int} {e : List AV} (hz : PzIn R M id n 2 h) (hn : n ≤ 100000) (he : EnvIs 219 [(0, .sc (.ptr id 0)), (1, .sc (.int .u8 (b.toNat : Int))), (4, i64 6), (5, i64 nx)] e) :
    W DD (.code (.seq (.seq (.ops m32_r9) (.block 0 (.seq (.ops m32_r10) (.cond (.t 76) (.seq (.ops m32_r11) (.seq (.ops m32_r12) (.block 1 (.loop m32_l13)))) (.seq (.ops m32_r17) (.cond (.t 95) (.ops m32_r18) (.seq (.ops m32_r19) (.cond (.t 108) (.draw m32_r20) (.seq (.ops m32_r21) (.cond (.t 121) (.draw m32_r22) (.seq (.ops m32_r23) (.cond (.t 134) (.seq (.ops m32_r24) (.cond (.t 152) (.draw m32_r25) .skip)) (.seq (.ops m32_r26) (.cond (.t 168) (.seq (.ops m32_r27) (.cond (.t 175) (.draw m32_r28) .skip)) (.seq (.ops m32_r29) (.cond (.t 196) (.ops m32_r30) (.seq (.ops m32_r31) (.cond (.t 202) (.draw m32_r32) .skip)))))))))))))))))) (.ops m32_r33)) e h)
      (fnK m32 fun _ vs h' => ∃ v, vs = [v] ∧ v = .tup [] ∧ PzIn R M id (n + 1) 0 h') := by
  obtain ⟨us, rfl⟩ := he.list
  obtain ⟨st, fin, kept, list, mids, text, u, L, ct, cp, hs, hu, hL, hg, hf, hk, hll, hml, htl⟩ := hz
  have hb0 := b.toNat_lt
  repeat' (first
    | (refine K_ops ?_; first
      | refine W_fastB rfl ?_
      | refine W_nil ?_
      | (refine K_call ?_; first
        | (refine W_callsN 51 rfl (w51 (s := list) (by omega)) rfl ?_; rintro _ h ⟨u3, H3, ca3, rfl, hn3, hH3, hHr3, t⟩; have hs := hs.call t; try simp only [setS] at hs; refine W_norm rfl ?_)
      )
      | (refine K_load ?_; first
        | (refine W_loadC hs 0 rfl rfl rfl ?_; refine W_norm rfl ?_)
      )
      | (refine K_store ?_; first
        | (refine W_storeC hs 0 rfl rfl rfl rfl (by first | decide | assumption) rfl rfl ?_; intro _ hs; try simp only [setS] at hs; refine W_norm rfl ?_)
        | (refine W_storeC hs 3 rfl rfl rfl rfl (by first | decide | assumption) rfl rfl ?_; intro _ hs; try simp only [setS] at hs; refine W_norm rfl ?_)
      )
      | (refine K_bslice ?_; first
        | (refine W_buildS1 evE hs rfl rfl ?_; intro _ _ _ _ hs; try simp only [setS] at hs; refine W_norm rfl ?_)
      )
      | (refine K_append ?_; first
        | (refine W_appS hs 4 rfl rfl (by assumption) rfl (by first | assumption | exact SlR.now hs (by assumption) | exact AccS.now (by assumption) hs (by simp) | exact OwnS.now (by assumption) hs (by simp)) rfl ⟨by decide, (by first | omega | (simp only [lenS]; omega))⟩ ?_; intro _ _ _ _ hs; try simp only [setS] at hs; refine W_norm rfl ?_)
      )
      | (refine W_buildN rfl ?_; refine W_norm rfl ?_)
    )
    | (refine K_code ?_; first
      | refine W_seq ?_
      | refine W_ops ?_
      | refine W_cond_t rfl ?_
      | refine W_cond_f rfl ?_
      | (refine W_cond rfl (fun hc => ?_) (fun hc => ?_) <;> (try rw [hc]) <;> (try simp only [cleanS, reduceCtorEq] at hc) <;> (try (exfalso; omega)) <;> (try refine W_norm rfl ?_))
      | refine W_skip ?_
      | refine W_block ?_
      | refine W_draws ?_
    )
    | refine W_dstep rfl ?_
    | refine ⟨rfl, fun rc hrec => ?_⟩
    | (refine W_dnilS (by simp only [List.reverse_cons, List.reverse_nil, List.nil_append, List.cons_append]; rfl) (by repeat' first | exact CL_nil _ _ | refine CL_skip rfl ?_ | refine CL_none (by assumption) rfl ?_ | refine CL_load (by assumption) rfl (by first | exact trivial | (repeat' first | exact trivial | refine ⟨⟨_, rfl, (by refine (congrArg (fun x => Heap.get x _) (RecIs.hh (by assumption))).trans ?_; first | rfl | exact PtR.same_get (by assumption) (by assumption) (by assumption) | exact Sep.same_get (by assumption) (by assumption) 0 0 rfl rfl | exact Sep.same_get (by assumption) (by assumption) 0 1 rfl rfl | exact Sep.same_get (by assumption) (by assumption) 0 2 rfl rfl | exact Sep.same_get (by assumption) (by assumption) 0 3 rfl rfl | exact Sep.same_get (by assumption) (by assumption) 0 4 rfl rfl | exact Sep.same_get (by assumption) (by assumption) 1 0 rfl rfl | exact Sep.same_get (by assumption) (by assumption) 1 1 rfl rfl | exact Sep.same_get (by assumption) (by assumption) 1 2 rfl rfl | exact Sep.same_get (by assumption) (by assumption) 1 3 rfl rfl | exact Sep.same_get (by assumption) (by assumption) 1 4 rfl rfl | exact Sep.same_get (by assumption) (by assumption) 2 0 rfl rfl | exact Sep.same_get (by assumption) (by assumption) 2 1 rfl rfl | exact Sep.same_get (by assumption) (by assumption) 2 2 rfl rfl | exact Sep.same_get (by assumption) (by assumption) 2 3 rfl rfl | exact Sep.same_get (by assumption) (by assumption) 2 4 rfl rfl | exact Sep.same_get (by assumption) (by assumption) 3 0 rfl rfl | exact Sep.same_get (by assumption) (by assumption) 3 1 rfl rfl | exact Sep.same_get (by assumption) (by assumption) 3 2 rfl rfl | exact Sep.same_get (by assumption) (by assumption) 3 3 rfl rfl | exact Sep.same_get (by assumption) (by assumption) 3 4 rfl rfl | exact Sep.same_get (by assumption) (by assumption) 4 0 rfl rfl | exact Sep.same_get (by assumption) (by assumption) 4 1 rfl rfl | exact Sep.same_get (by assumption) (by assumption) 4 2 rfl rfl | exact Sep.same_get (by assumption) (by assumption) 4 3 rfl rfl | exact Sep.same_get (by assumption) (by assumption) 4 4 rfl rfl)⟩, ?_⟩)) (by first | exact trivial | (repeat' first | exact trivial | refine ⟨⟨_, rfl, (by refine (congrArg (fun x => Heap.get x _) (RecIs.hh' (by assumption))).trans ?_; first | rfl | exact PtR.same_get (by assumption) (by assumption) (by assumption) | exact Sep.same_get (by assumption) (by assumption) 0 0 rfl rfl | exact Sep.same_get (by assumption) (by assumption) 0 1 rfl rfl | exact Sep.same_get (by assumption) (by assumption) 0 2 rfl rfl | exact Sep.same_get (by assumption) (by assumption) 0 3 rfl rfl | exact Sep.same_get (by assumption) (by assumption) 0 4 rfl rfl | exact Sep.same_get (by assumption) (by assumption) 1 0 rfl rfl | exact Sep.same_get (by assumption) (by assumption) 1 1 rfl rfl | exact Sep.same_get (by assumption) (by assumption) 1 2 rfl rfl | exact Sep.same_get (by assumption) (by assumption) 1 3 rfl rfl | exact Sep.same_get (by assumption) (by assumption) 1 4 rfl rfl | exact Sep.same_get (by assumption) (by assumption) 2 0 rfl rfl | exact Sep.same_get (by assumption) (by assumption) 2 1 rfl rfl | exact Sep.same_get (by assumption) (by assumption) 2 2 rfl rfl | exact Sep.same_get (by assumption) (by assumption) 2 3 rfl rfl | exact Sep.same_get (by assumption) (by assumption) 2 4 rfl rfl | exact Sep.same_get (by assumption) (by assumption) 3 0 rfl rfl | exact Sep.same_get (by assumption) (by assumption) 3 1 rfl rfl | exact Sep.same_get (by assumption) (by assumption) 3 2 rfl rfl | exact Sep.same_get (by assumption) (by assumption) 3 3 rfl rfl | exact Sep.same_get (by assumption) (by assumption) 3 4 rfl rfl | exact Sep.same_get (by assumption) (by assumption) 4 0 rfl rfl | exact Sep.same_get (by assumption) (by assumption) 4 1 rfl rfl | exact Sep.same_get (by assumption) (by assumption) 4 2 rfl rfl | exact Sep.same_get (by assumption) (by assumption) 4 3 rfl rfl | exact Sep.same_get (by assumption) (by assumption) 4 4 rfl rfl)⟩, ?_⟩)) ?_) ?_)
    | refine seqK_n ?_
    | refine blockK_n ?_
    | (refine fnK_n rfl ?_; try dsimp only [gd_z, gd_s]))
  all_goals first
    | (have key : ∀ {p q : Hp} {h9 : Heap}, Sep R (ca3 :: hpOf H3 :: p :: q :: cp :: M) h9 → Sep R (p :: q :: (ca3 ++ (hpOf H3 ++ cp)) :: M) h9 := fun k => k.reord (fun a => by simp only [List.flatten_cons, List.flatten_nil, List.count_append, List.count_nil, hpOf_append, hpOf_cons, hpOf_nil, List.append_nil, List.eraseIdx_cons_succ, List.eraseIdx_zero, List.tail_cons] <;> omega)
       refine ⟨_, rfl, rfl, _, _, _, _, _, _, _, _, _, _, key (hs.drop 0), (by assumption), ?_, (good_all hg (fun x hx => List.mem_append_right _ (List.mem_append_right _ hx)) (good_of hn3 ⟨by omega, by omega⟩ (by omega) (fun h => by cases h) hH3 hHr3)), ?_, ?_, ?_, ?_, ?_⟩ <;> (first | omega | (simp only [List.length_append, List.length_cons, List.length_nil]; omega)))
    | (refine ⟨_, rfl, rfl, _, _, _, _, _, _, _, _, _, _, hs, hu, ?_, hg, ?_, ?_, ?_, ?_, ?_⟩ <;> (first | omega | (simp only [List.length_append, List.length_cons, List.length_nil]; omega)))
    | (refine ⟨_, rfl, rfl, _, _, _, _, _, _, _, _, _, _, (hs.drop 0), hu, ?_, hg, ?_, ?_, ?_, ?_, ?_⟩ <;> (first | omega | (simp only [List.length_append, List.length_cons, List.length_nil]; omega)))
    | skip
theorem w32_x {R : Ro} {M : List Hp} {h : Heap} {id n : Nat} {b : UInt8} {a nx : Int} {e : List AV} (hz : PzIn R M id n 2 h) (hn : n ≤ 100000) (ha : ¬ a = 1 ∧ ¬ a = 2 ∧ ¬ a = 3 ∧ ¬ a = 4 ∧ ¬ a = 5 ∧ ¬ a = 6 ∧ ¬ a = 8) (he : EnvIs 219 [(0, .sc (.ptr id 0)), (1, .sc (.int .u8 (b.toNat : Int))), (4, i64 a), (5, i64 nx)] e) :
    W DD (.code (.seq (.seq (.ops m32_r9) (.block 0 (.seq (.ops m32_r10) (.cond (.t 76) (.seq (.ops m32_r11) (.seq (.ops m32_r12) (.block 1 (.loop m32_l13)))) (.seq (.ops m32_r17) (.cond (.t 95) (.ops m32_r18) (.seq (.ops m32_r19) (.cond (.t 108) (.draw m32_r20) (.seq (.ops m32_r21) (.cond (.t 121) (.draw m32_r22) (.seq (.ops m32_r23) (.cond (.t 134) (.seq (.ops m32_r24) (.cond (.t 152) (.draw m32_r25) .skip)) (.seq (.ops m32_r26) (.cond (.t 168) (.seq (.ops m32_r27) (.cond (.t 175) (.draw m32_r28) .skip)) (.seq (.ops m32_r29) (.cond (.t 196) (.ops m32_r30) (.seq (.ops m32_r31) (.cond (.t 202) (.draw m32_r32) .skip)))))))))))))))))) (.ops m32_r33)) e h)
      (fnK m32 fun _ vs h' => ∃ v, vs = [v] ∧ v = .tup [] ∧ PzIn R M id (n + 1) 0 h') := by
  obtain ⟨us, rfl⟩ := he.list
  obtain ⟨st, fin, kept, list, mids, text, u, L, ct, cp, hs, hu, hL, hg, hf, hk, hll, hml, htl⟩ := hz
  have hb0 := b.toNat_lt
  obtain ⟨a1, a2, a3, a4, a5, a6, a8⟩ := ha
  repeat' (first
    | (refine K_ops ?_; first
      | refine W_fastB rfl ?_
      | refine W_nil ?_
      | (refine K_store ?_; first
        | (refine W_storeC hs 0 rfl rfl rfl rfl (by first | decide | assumption) rfl rfl ?_; intro _ hs; try simp only [setS] at hs; refine W_norm rfl ?_)
      )
    )
    | (refine K_code ?_; first
      | refine W_seq ?_
      | refine W_ops ?_
      | (refine W_cond rfl (fun hc => ?_) (fun hc => ?_) <;> (try rw [hc]) <;> (try simp only [cleanS, reduceCtorEq] at hc) <;> (try (exfalso; omega)) <;> (try refine W_norm rfl ?_))
      | refine W_skip ?_
      | refine W_block ?_
    )
    | refine seqK_n ?_
    | refine blockK_n ?_
    | (refine fnK_n rfl ?_; try dsimp only [gd_z, gd_s]))
  all_goals first
    | (refine ⟨_, rfl, rfl, _, _, _, _, _, _, _, _, _, _, hs, hu, ?_, hg, ?_, ?_, ?_, ?_, ?_⟩ <;> (first | omega | (simp only [List.length_append, List.length_cons, List.length_nil]; omega)))
    | (refine ⟨_, rfl, rfl, _, _, _, _, _, _, _, _, _, _, (hs.drop 0), hu, ?_, hg, ?_, ?_, ?_, ?_, ?_⟩ <;> (first | omega | (simp only [List.length_append, List.length_cons, List.length_nil]; omega)))
    | skip
end Go.Proofs.YtggkbkbhegcbkaaDoor
/- The document's parser, walked: a byte. CLNONE -/
set_option linter.unusedSimpArgs false
set_option linter.unusedVariables false
set_option maxHeartbeats 4000000
set_option maxRecDepth 100000
namespace Go.Proofs.YtggkbkbhegcbkaaDoor
open Go Go.Jx

theorem w32_1 {R : Ro} {M : List Hp} {h : Heap} {id n : Nat} {b : UInt8} {nx : Int} {e : List AV} (hz : PzIn R M id n 2 h) (hn : n ≤ 100000) (he : EnvIs 219 [(0, .sc (.ptr id 0)), (1, .sc (.int .u8 (b.toNat : Int))), (4, i64 1), (5, i64 nx)] e) :
    W DD (.code (.seq (.seq (.ops m32_r9) (.block 0 (.seq (.ops m32_r10) (.cond (.t 76) (.seq (.ops m32_r11) (.seq (.ops m32_r12) (.block 1 (.loop m32_l13)))) (.seq (.ops m32_r17) (.cond (.t 95) (.ops m32_r18) (.seq (.ops m32_r19) (.cond (.t 108) (.draw m32_r20) (.seq (.ops m32_r21) (.cond (.t 121) (.draw m32_r22) (.seq (.ops m32_r23) (.cond (.t 134) (.seq (.ops m32_r24) (.cond (.t 152) (.draw m32_r25) .skip)) (.seq (.ops m32_r26) (.cond (.t 168) (.seq (.ops m32_r27) (.cond (.t 175) (.draw m32_r28) .skip)) (.seq (.ops m32_r29) (.cond (.t 196) (.ops m32_r30) (.seq (.ops m32_r31) (.cond (.t 202) (.draw m32_r32) .skip)))))))))))))))))) (.ops m32_r33)) e h)
      (fnK m32 fun _ vs h' => ∃ v, vs = [v] ∧ v = .tup [] ∧ PzIn R M id (n + 1) 0 h') := by
  obtain ⟨us, rfl⟩ := he.list
  obtain ⟨st, fin, kept, list, mids, text, u, L, ct, cp, hs, hu, hL, hg, hf, hk, hll, hml, htl⟩ := hz
  have hb0 := b.toNat_lt
  have hbs := byteB_short kept b
  obtain ⟨hbk, hbl⟩ := hbs
  repeat' (first
    | (refine K_ops ?_; first
      | refine W_fastB rfl ?_
      | refine W_nil ?_
      | (refine K_call ?_; first
        | (refine W_callsN 49 rfl (w49q hs hk) rfl ?_; rintro _ h ⟨u2, c2, rfl, ha2, hs2⟩; replace hs := hs2; clear hs2; refine W_norm rfl ?_)
      )
    )
    | (refine K_code ?_; first
      | refine W_seq ?_
      | refine W_ops ?_
      | refine W_cond_t rfl ?_
      | refine W_block ?_
    )
    | refine seqK_n ?_)
  have hln2 := ha2.ln
  generalize (byteB kept b).2 = X at *
  generalize (byteB kept b).1 = kept2 at *
  clear hk
  have hz2 : PzIn R (c2 :: M) id n 2 h := ⟨st, fin, kept2, list, mids, text, u, L, ct, cp, by unfold pzO at *; exact hs.reord (fun a => by simp only [List.flatten_cons, List.flatten_nil, List.count_append, List.count_nil, hpOf_append, hpOf_cons, hpOf_nil, List.append_nil, List.eraseIdx_cons_succ, List.eraseIdx_zero, List.tail_cons] <;> omega), hu, hL, hg, hf, hbk, hll, hml, htl⟩
  clear hs hu hL hg hf hbk hll hml htl
  refine W_loopB [7, 83, 84, 85, 86, 87, 88, 89, 90, 91, 92, 93, 94] [0, 1, 2, 3, 4, 5, 6, 7, 8, 9, 10, 11, 12, 13, 14, 15, 16, 17, 18, 19, 20, 21, 22, 23, 24, 25, 26, 27, 28, 29, 30, 31, 32, 33, 34, 35, 36, 37, 38, 39, 40, 41, 42, 43, 44, 45, 46, 47, 48, 49, 50, 51, 52, 53, 54, 55, 56, 57, 58, 59, 60, 61, 62, 63, 64, 65, 66, 67, 68, 69, 70, 71, 72, 73, 74, 75, 76, 77, 78, 79, 80, 81, 82, 83, 84, 85, 86, 87, 88, 89, 90, 91, 92, 93, 94, 95, 96, 97, 98, 99, 100, 101, 102, 103, 104, 105, 106, 107, 108, 109, 110, 111, 112, 113, 114, 115, 116, 117, 118, 119, 120, 121, 122, 123, 124, 125, 126, 127, 128, 129, 130, 131, 132, 133, 134, 135, 136, 137, 138, 139, 140, 141, 142, 143, 144, 145, 146, 147, 148, 149, 150, 151, 152, 153, 154, 155, 156, 157, 158, 159, 160, 161, 162, 163, 164, 165, 166, 167, 168, 169, 170, 171, 172, 173, 174, 175, 176, 177, 178, 179, 180, 181, 182, 183, 184, 185, 186, 187, 188, 189, 190, 191, 192, 193, 194, 195, 196, 197, 198, 199, 200, 201, 202, 203, 204, 205, 206, 207, 208, 209, 210, 211, 212, 213, 214, 215, 216, 217, 218] (fun n' sl h' => ∃ (i : Nat), sl = [(7, i64 (i : Int))] ∧ n' = X.length - i ∧ i ≤ X.length ∧ PzIn R (c2 :: M) id n (2 + i) h') ?_ ?_
  · refine ⟨_, _, ⟨0, rfl, rfl, by omega, hz2⟩, EnvB.of rfl⟩
  clear hz2
  rintro _ _ us2 _ h5 ⟨i, rfl, rfl, hi, hz⟩ he
  refine W_spell he rfl ?_
  clear he
  unfold m32_l13
  obtain ⟨st, fin, kept, list, mids, text, u, L, ct, cp, hs, hu, hL, hg, hf, hk, hll, hml, htl⟩ := hz
  by_cases hlt : i < X.length
  · obtain ⟨i2, kd2, rfl, rfl, hkd2⟩ := ha2.pos (by omega)
    repeat' (first
      | (refine K_ops ?_; first
        | refine W_fastB rfl ?_
        | refine W_nil ?_
        | (refine K_call ?_; first
          | (refine W_callsN 50 rfl (w50 hs hu (by omega)) rfl ?_; rintro _ h ⟨u4, ct4, rfl, hu4, hs2⟩; replace hs := hs2; clear hs2; refine W_norm rfl ?_)
        )
        | (refine W_lenL rfl (by first | assumption | exact SlR.ln (by assumption) | exact AccS.ln (by assumption) | exact OwnS.ln (by assumption) | exact VwO.ln (by assumption) | exact OwnP.ln (by assumption) | exact Len.sl) ?_; refine W_norm rfl ?_)
        | (refine K_bin ?_; first
          | (refine W_add rfl rfl (IntWalk.i64_in _ (by first | omega | (simp only [lenS]; omega))) ?_; refine W_norm rfl ?_)
        )
        | (refine K_index ?_; first
          | (refine W_indexO rfl rfl ⟨(by first | omega | (simp only [lenS]; omega)), (by first | omega | (simp only [lenS]; omega))⟩ ?_; refine W_norm rfl ?_)
        )
        | (refine K_load ?_; first
          | (refine W_loadO hs 3 rfl rfl rfl (by first | omega | (simp only [lenS]; omega)) rfl ?_; refine W_norm rfl ?_)
        )
      )
      | (refine K_code ?_; first
        | refine W_seq ?_
        | refine W_ops ?_
        | (refine W_cond rfl (fun hc => ?_) (fun hc => ?_) <;> (try rw [hc]) <;> (try simp only [cleanS, reduceCtorEq] at hc) <;> (try (exfalso; omega)) <;> (try refine W_norm rfl ?_))
        | refine W_skip ?_
        | refine W_block ?_
      )
      | refine seqK_n ?_
      | refine blockK_n ?_
      | refine invK_n ?_)
    refine ⟨_, ?_, _, ⟨i + 1, rfl, rfl, ?_, ?_⟩, EnvB.of rfl⟩
    · omega
    · omega
    · refine ⟨_, _, _, _, _, _, _, _, _, _, hs, hu4, ?_, good_all hg (fun _ h => h) (good_nils ⟨by decide, by decide⟩ (by decide) (fun h => by cases h)), hf, hk, hll, hml, htl⟩
      rw [List.length_append, List.length_cons, List.length_nil]; omega
  · repeat' (first
      | (refine K_ops ?_; first
        | refine W_fastB rfl ?_
        | refine W_nil ?_
        | (refine W_lenL rfl (by first | assumption | exact SlR.ln (by assumption) | exact AccS.ln (by assumption) | exact OwnS.ln (by assumption) | exact VwO.ln (by assumption) | exact OwnP.ln (by assumption) | exact Len.sl) ?_; refine W_norm rfl ?_)
        | (refine K_store ?_; first
          | (refine W_storeC hs 0 rfl rfl rfl rfl (by first | decide | assumption) rfl rfl ?_; clear hs; intro _ hs; try simp only [setS] at hs; refine W_norm rfl ?_)
        )
      )
      | (refine K_code ?_; first
        | refine W_seq ?_
        | refine W_ops ?_
        | (refine W_cond rfl (fun hc => ?_) (fun hc => ?_) <;> (try rw [hc]) <;> (try simp only [cleanS, reduceCtorEq] at hc) <;> (try (exfalso; omega)) <;> (try refine W_norm rfl ?_))
        | refine W_exit ?_
      )
      | refine seqK_n ?_
      | refine seqK_x ?_
      | refine blockK_n ?_
      | refine blockK_e ?_
      | refine invK_x ?_
      | (refine fnK_n rfl ?_; try dsimp only [gd_z, gd_s]))
    refine ⟨_, rfl, rfl, _, _, _, _, _, _, _, _, _, _, (by have := hs.drop 3; exact this), hu, ?_, hg, hf, hk, ?_, ?_, ?_⟩ <;> omega
end Go.Proofs.YtggkbkbhegcbkaaDoor
