import Derived.Test.YtggkbkbhegcbkaaDoorJxM18B
/- The gate: what an event may do, walked. CALLV -/
set_option linter.unusedSimpArgs false
set_option linter.unusedVariables false
set_option maxHeartbeats 1000000
set_option maxRecDepth 100000
namespace Go.Proofs.YtggkbkbhegcbkaaDoor
open Go Go.Jx

section
variable {α : Type} {p : α → Bool} {L : List α} {d : α}
/-- Where the first one is; below 0: there is none. -/
def idxP (p : α → Bool) (L : List α) : Int := if (L.takeWhile fun r => !p r).length < L.length then ((L.takeWhile fun r => !p r).length : Int) else -1
theorem takeW_at (d : α) : ∀ (L : List α) (k : Nat), k < L.length → (∀ j, j < k → p (L.getD j d) = false) → p (L.getD k d) = true → (L.takeWhile fun r => !p r).length = k
  | [], k, hk, _, _ => by simp at hk
  | x :: L, 0, hk, h1, h2 => by
    have : p x = true := h2
    rw [List.takeWhile_cons, this]; rfl
  | x :: L, k + 1, hk, h1, h2 => by
    have : p x = false := h1 0 (by omega)
    rw [List.takeWhile_cons, this]
    have := takeW_at d L k (by simpa using hk) (fun j hj => by simpa using h1 (j + 1) (by omega)) (by simpa using h2)
    simp [this]
theorem idxP_at (d : α) {k : Nat} (hk : k < L.length) (h1 : ∀ j, j < k → p (L.getD j d) = false) (h2 : p (L.getD k d) = true) : idxP p L = k := by
  unfold idxP
  rw [takeW_at d L k hk h1 h2, if_pos hk]
theorem idxP_none (d : α) (h1 : ∀ j, j < L.length → p (L.getD j d) = false) : idxP p L = -1 := by
  have h2 : ∀ x ∈ L, (!p x) = true := by
    intro x hx
    obtain ⟨j, hj, rfl⟩ := List.getElem_of_mem hx
    have := h1 j hj
    rw [List.getD_eq_getElem?_getD, List.getElem?_eq_getElem hj] at this
    have h3 : p L[j] = false := this
    rw [h3]; rfl
  unfold idxP
  have h4 : L.takeWhile (fun r => !p r) = L := by
    clear h1
    induction L with
    | nil => rfl
    | cons x L ih => rw [List.takeWhile_cons, if_pos (h2 x (by simp)), ih fun y hy => h2 y (by simp [hy])]
  rw [h4, if_neg (by omega)]
theorem idxP_any : ∀ (L : List α), (idxP p L = -1 ∧ L.any p = false) ∨ (0 ≤ idxP p L ∧ L.any p = true)
  | [] => .inl ⟨rfl, rfl⟩
  | x :: L => by
    have h := idxP_any L
    cases hx : p x with
    | true =>
      right
      refine ⟨?_, by simp [hx]⟩
      unfold idxP
      rw [List.takeWhile_cons, hx]
      simp
    | false =>
      have e : idxP p (x :: L) = if idxP p L = -1 then -1 else idxP p L + 1 := by
        unfold idxP
        rw [List.takeWhile_cons, hx]
        simp only [Bool.not_false, if_true, List.length_cons]
        by_cases hl : (L.takeWhile fun r => !p r).length < L.length
        · rw [if_pos (by omega), if_pos hl, if_neg (by omega)]; omega
        · rw [if_neg (by omega), if_neg hl]; rfl
      have e2 : (x :: L).any p = L.any p := by simp [hx]
      rw [e, e2]
      rcases h with ⟨h1, h2⟩ | ⟨h1, h2⟩
      · left; rw [if_pos h1]; exact ⟨rfl, h2⟩
      · right; rw [if_neg (by omega)]; exact ⟨by omega, h2⟩
theorem idxP_ge (L : List α) : decide (idxP p L ≥ 0) = L.any p := by
  rcases idxP_any (p := p) L with ⟨h1, h2⟩ | ⟨h1, h2⟩
  · rw [h1, h2]; decide
  · rw [h2]; exact decide_eq_true h1
end

/-! ## plain -/
def firstP (G : List (List Int)) : Int := if G.length = 0 then 0 else if (G.getD 0 []).length ≠ 1 then -1 else (G.getD 0 []).getD 0 0
def badP (of p : List Int) : Bool := decide (p.length ≠ 1) || !(of.any fun x => x == p.getD 0 0)
def allL (G : List (List Int)) (of : List Int) : Bool := decide (0 < G.length) && !(G.any (badP of))
def inL (f : UInt8) (s : List UInt8) : Bool := decide (indexByteA s f.toNat ≥ 0)
def lettersC : List UInt8 := [64,65,66,67,68,69,70,71,72,73,74,75,76,77,80,83,84,88,90,96,97,98,100,101,102,103,109,114,115,117]
def lettersE : List UInt8 := [55,56,68,69,72,77,99]
def modeB (f : UInt8) : Bool := decide ((f.toNat : Int) = 104 ∨ (f.toNat : Int) = 108)
def csiB (f : UInt8) (m : List UInt8) (G : List (List Int)) : Bool :=
  if m = [] then inL f lettersC || (modeB f && allL G [4]) else if m = [63] then modeB f && allL G [1, 6, 7, 25, 1049, 2004] else decide (m = [33] ∧ (f.toNat : Int) = 112)
def asksL (f : UInt8) (m : List UInt8) (G : List (List Int)) : Int :=
  if m ++ [f] = [99] then (if firstP G = 0 then 1 else 0)
  else if m ++ [f] = [62, 99] then (if firstP G = 0 then 2 else 0)
  else if m ++ [f] = [110] then (if firstP G = 5 ∨ firstP G = 6 then firstP G - 2 else 0)
  else if m ++ [f] = [63, 110] then (if firstP G = 6 then 5 else 0)
  else 0
def gridB (k : Int) (f : UInt8) (m : List UInt8) (G : List (List Int)) : Bool :=
  if k = 1 then true else if k = 2 then decide (8 ≤ (f.toNat : Int) ∧ (f.toNat : Int) ≤ 13) else if k = 4 then csiB f m G
  else decide (k = 3) && ((decide (m = []) && inL f lettersE) || decide (m = [35] ∧ (f.toNat : Int) = 56))
abbrev Flow := Int × Int × List UInt8
def sysL (t : List UInt8) : Flow :=
  if (cutL t 59).1 = [48] ∨ (cutL t 59).1 = [50] then (if t.length > (cutL t 59).1.length then (2, 0, cleanL (cutL t 59).2.1) else (7, 0, []))
  else if (cutL t 59).1 = [53, 50] then
    (if (cutL (cutL t 59).2.1 59).2.2 = true ∧ (cutL (cutL t 59).2.1 59).2.1 = [63] then (5, 0, [])
     else if (cutL (cutL t 59).2.1 59).2.2 = true ∧ (decL (cutL (cutL t 59).2.1 59).2.1).isSome = true ∧ ((decL (cutL (cutL t 59).2.1 59).2.1).getD []).length ≤ 4096 then (4, 0, (decL (cutL (cutL t 59).2.1 59).2.1).getD [])
     else (7, 0, []))
  else (7, 0, [])
def classL (k : Int) (f : UInt8) (m : List UInt8) (G : List (List Int)) (t : List UInt8) : Flow :=
  if gridB k f m G = true then (1, 0, []) else if k = 2 ∧ (f.toNat : Int) = 7 then (3, 0, []) else if k = 5 then sysL t
  else if k = 4 ∧ asksL f m G > 0 then (6, asksL f m G, []) else (7, 0, [])
def flowC (x : Flow) : List SV := [.int .i64 x.1, .int .i64 x.2.1, .str x.2.2]
def evC (k r : Int) (f : UInt8) (m : List UInt8) (p : SV) (t : List UInt8) : List SV := [.int .i64 k, .int .i32 r, .int .u8 (f.toNat : Int), .str m, p, .str t]

/-! ## walked -/
theorem w76 {v : SV} {L : List Int} {x : Int} {h : Heap} (hv : SlR (intEl .i64) (Now h) v L) (hl : L.length ≤ 1000000) : Wc DD 76 [.sc v, i64 x] h fun w h' => w = i64 (idxP (fun y => y == x) L) ∧ h' = h := by
  have hs := Sep.entry h
  have hln := hv.ln
  refine W_enter d76 ?_
  show W _ (.code m76_code [.sc v, i64 x, undefA, undefA, undefA, undefA, undefA, undefA, undefA, undefA, undefA, undefA, undefA, undefA, undefA, undefA, undefA, undefA, undefA] _) _
  unfold m76_code
  repeat' (first
    | (refine K_ops ?_; first
      | refine W_fastB rfl ?_
      | refine W_nil ?_
      | (refine W_lenL rfl (by first | assumption | exact SlR.ln (by assumption) | exact AccS.ln (by assumption) | exact OwnS.ln (by assumption) | exact VwO.ln (by assumption) | exact OwnP.ln (by assumption) | exact Len.sl) ?_; refine W_norm rfl ?_)
    )
    | (refine K_code ?_; first
      | refine W_seq ?_
      | refine W_ops ?_
      | refine W_block ?_
    )
    | refine seqK_n ?_)
  refine W_loopB [4, 5, 8, 9, 10, 11, 12, 13, 14, 15, 16, 17, 18] [0, 1, 2, 3, 4, 5, 6, 7, 8, 9, 10, 11, 12, 13, 14, 15, 16, 17, 18] (fun n' sl h' => ∃ (i : Nat), sl = [(8, i64 (i : Int))] ∧ n' = L.length - i ∧ i ≤ L.length ∧ (∀ j, j < i → (L.getD j 0 == x) = false) ∧ h' = h) ?_ ?_
  · refine ⟨_, _, ⟨0, rfl, rfl, Nat.zero_le _, (fun j hj => by omega), rfl⟩, EnvB.of rfl⟩
  rintro _ _ us _ h2 ⟨i, rfl, rfl, hi, hz, rfl⟩ he
  refine W_spell he rfl ?_
  clear he
  unfold m76_l2
  by_cases hlt : i < L.length
  · have hge : L.getD (i : Int).toNat (intEl .i64).dflt = L.getD i 0 := rfl
    repeat' (first
      | (refine K_ops ?_; first
        | refine W_fastB rfl ?_
        | refine W_nil ?_
        | (refine K_bin ?_; first
          | (refine W_add rfl rfl (IntWalk.i64_in _ (by first | omega | (simp only [lenS]; omega))) ?_; refine W_norm rfl ?_)
        )
        | (refine K_index ?_; first
          | (refine W_indexR rfl rfl (by assumption) rfl ⟨(by first | omega | (simp only [lenS]; omega)), (by first | omega | (simp only [lenS]; omega))⟩ ?_; intro _ _ _; refine W_norm rfl ?_)
        )
        | (refine K_load ?_; first
          | (refine W_loadR hs rfl (by assumption) rfl ?_; refine W_norm rfl ?_)
        )
      )
      | (refine K_code ?_; first
        | refine W_seq ?_
        | refine W_ops ?_
        | (refine W_cond rfl (fun hc => ?_) (fun hc => ?_) <;> (try rw [hc]) <;> (try simp only [cleanS, reduceCtorEq] at hc) <;> (try (exfalso; omega)) <;> (try refine W_norm rfl ?_))
        | refine W_skip ?_
        | refine W_ret ?_
        | refine W_block ?_
      )
      | refine seqK_n ?_
      | refine seqK_r ?_
      | refine blockK_r ?_
      | refine blockK_n ?_
      | refine invK_r ?_
      | refine invK_n ?_
      | (refine fnK_r rfl ?_; try dsimp only [gd_z, gd_s]))
    · exact ⟨_, rfl, by rw [idxP_at 0 hlt hz (by rw [beq_iff_eq]; omega)], rfl⟩
    · refine ⟨_, ?_, _, ⟨i + 1, rfl, rfl, ?_, ?_, rfl⟩, EnvB.of rfl⟩
      · omega
      · omega
      · intro j hj
        rcases Nat.lt_or_ge j i with h1 | h1
        · exact hz j h1
        · obtain rfl : j = i := by omega
          rw [beq_eq_false_iff_ne]; omega
  · obtain rfl : i = L.length := by omega
    repeat' (first
      | (refine K_ops ?_; first
        | refine W_fastB rfl ?_
        | refine W_nil ?_
      )
      | (refine K_code ?_; first
        | refine W_seq ?_
        | refine W_ops ?_
        | (refine W_cond rfl (fun hc => ?_) (fun hc => ?_) <;> (try rw [hc]) <;> (try simp only [cleanS, reduceCtorEq] at hc) <;> (try (exfalso; omega)) <;> (try refine W_norm rfl ?_))
        | refine W_ret ?_
        | refine W_exit ?_
      )
      | refine seqK_n ?_
      | refine seqK_x ?_
      | refine blockK_e ?_
      | refine invK_x ?_
      | (refine fnK_r rfl ?_; try dsimp only [gd_z, gd_s]))
    exact ⟨_, rfl, by rw [idxP_none 0 hz], rfl⟩
theorem w68 {v : SV} {L : List Int} {x : Int} {h : Heap} (hv : SlR (intEl .i64) (Now h) v L) (hl : L.length ≤ 1000000) : Wc DD 68 [.sc v, i64 x] h fun w h' => w = bo (L.any fun y => y == x) ∧ h' = h := by
  refine W_enter d68 ?_
  show W _ (.code m68_code [.sc v, i64 x, undefA, undefA, undefA, undefA, undefA, undefA, undefA] _) _
  unfold m68_code
  repeat' (first
    | (refine K_ops ?_; first
      | refine W_fastB rfl ?_
      | refine W_nil ?_
      | (refine K_call ?_; first
        | (refine W_callsN 76 rfl (w76 hv hl) rfl ?_; rintro _ h ⟨rfl, rfl⟩; refine W_norm rfl ?_)
      )
    )
    | (refine K_code ?_; first
      | refine W_seq ?_
      | refine W_ops ?_
      | refine W_ret ?_
    )
    | refine seqK_n ?_
    | (refine fnK_r rfl ?_; try dsimp only [gd_z, gd_s]))
  exact ⟨_, rfl, by rw [← idxP_ge], rfl⟩
theorem w67 {v o : SV} {L of : List Int} {b : Nat} {t : TypeId} {kd : Kind} {h : Heap} (hv : SlR (intEl .i64) (Now h) v L) (hb : h.get b = some (.cells t kd [o])) (ho : SlR (intEl .i64) (Now h) o of) (hl : L.length ≤ 1000000) (hol : of.length ≤ 1000000) :
    Wc DD 67 [.sc v, .sc (.ptr b 0)] h fun w h' => w = bo (badP of L) ∧ h' = h := by
  have hs := Sep.entry h
  have hln := hv.ln
  have hpt : PtR (Now h) b 0 [o] := ⟨t, kd, [o], hb, by simp [readN]⟩
  refine W_enter d67 ?_
  show W _ (.code m67_code [.sc v, .sc (.ptr b 0), undefA, undefA, undefA, undefA, undefA, undefA, undefA, undefA, undefA, undefA, undefA, undefA, undefA] _) _
  unfold m67_code
  repeat' (first
    | (refine K_ops ?_; first
      | refine W_fastB rfl ?_
      | refine W_nil ?_
      | (refine K_guard ?_; first
        | refine W_guard_on rfl ?_
        | refine W_guard_off rfl rfl (W_norm rfl ?_)
        | (refine W_guardF rfl (fun hc => ?_) (fun hc => ?_) <;> (try rw [hc]) <;> (try simp only [cleanS, reduceCtorEq] at hc) <;> (try (exfalso; omega)) <;> (try refine W_norm rfl ?_))
      )
      | (refine K_call ?_; first
        | (refine W_callsN 68 rfl (w68 (x := L.getD 0 0) ho hol) rfl ?_; rintro _ _ ⟨rfl, rfl⟩; refine W_norm rfl ?_)
      )
      | (refine W_lenL rfl (by first | assumption | exact SlR.ln (by assumption) | exact AccS.ln (by assumption) | exact OwnS.ln (by assumption) | exact VwO.ln (by assumption) | exact OwnP.ln (by assumption) | exact Len.sl) ?_; refine W_norm rfl ?_)
      | (refine K_pick ?_; first
        | refine W_pick_t rfl rfl (W_norm rfl ?_)
        | refine W_pick_f rfl rfl (W_norm rfl ?_)
      )
      | (refine K_index ?_; first
        | (refine W_indexR rfl rfl (by assumption) rfl ⟨(by first | omega | (simp only [lenS]; omega)), (by first | omega | (simp only [lenS]; omega))⟩ ?_; intro _ _ _; refine W_norm rfl ?_)
      )
      | (refine K_load ?_; first
        | (refine W_loadR hs rfl (by assumption) rfl ?_; refine W_norm rfl ?_)
      )
    )
    | (refine K_code ?_; first
      | refine W_seq ?_
      | refine W_ops ?_
      | refine W_ret ?_
      | refine W_draws ?_
    )
    | refine W_dstep rfl ?_
    | refine ⟨rfl, fun rc hrec => ?_⟩
    | (refine W_dnilS (by simp only [List.reverse_cons, List.reverse_nil, List.nil_append, List.cons_append]; rfl) (by repeat' first | exact CL_nil _ _ | refine CL_skip rfl ?_ | refine CL_load (by assumption) rfl (by first | exact trivial | (repeat' first | exact trivial | refine ⟨⟨_, rfl, (by refine (congrArg (fun x => Heap.get x _) (RecIs.hh (by assumption))).trans ?_; first | rfl | exact PtR.same_get (by assumption) (by assumption) (by assumption) | exact Sep.same_get (by assumption) (by assumption) 0 0 rfl rfl | exact Sep.same_get (by assumption) (by assumption) 0 1 rfl rfl | exact Sep.same_get (by assumption) (by assumption) 0 2 rfl rfl | exact Sep.same_get (by assumption) (by assumption) 1 0 rfl rfl | exact Sep.same_get (by assumption) (by assumption) 1 1 rfl rfl | exact Sep.same_get (by assumption) (by assumption) 1 2 rfl rfl | exact Sep.same_get (by assumption) (by assumption) 2 0 rfl rfl | exact Sep.same_get (by assumption) (by assumption) 2 1 rfl rfl | exact Sep.same_get (by assumption) (by assumption) 2 2 rfl rfl)⟩, ?_⟩)) (by first | exact trivial | (repeat' first | exact trivial | refine ⟨⟨_, rfl, (by refine (congrArg (fun x => Heap.get x _) (RecIs.hh' (by assumption))).trans ?_; first | rfl | exact PtR.same_get (by assumption) (by assumption) (by assumption) | exact Sep.same_get (by assumption) (by assumption) 0 0 rfl rfl | exact Sep.same_get (by assumption) (by assumption) 0 1 rfl rfl | exact Sep.same_get (by assumption) (by assumption) 0 2 rfl rfl | exact Sep.same_get (by assumption) (by assumption) 1 0 rfl rfl | exact Sep.same_get (by assumption) (by assumption) 1 1 rfl rfl | exact Sep.same_get (by assumption) (by assumption) 1 2 rfl rfl | exact Sep.same_get (by assumption) (by assumption) 2 0 rfl rfl | exact Sep.same_get (by assumption) (by assumption) 2 1 rfl rfl | exact Sep.same_get (by assumption) (by assumption) 2 2 rfl rfl)⟩, ?_⟩)) ?_) ?_)
    | refine seqK_n ?_
    | (refine fnK_r rfl ?_; try dsimp only [gd_z, gd_s]))
  all_goals
    refine ⟨_, rfl, congrArg bo ?_, rfl⟩
    unfold badP
    first
      | (rw [decide_eq_false (show ¬ L.length ≠ 1 by omega)]; rfl)
      | (rw [decide_eq_true (show L.length ≠ 1 by omega)]; rfl)

/-- All rows of slices of slices are short. -/
def Short (P : List (SV × List Int)) : Prop := P.length ≤ 1000000 ∧ ∀ g ∈ P, g.2.length ≤ 1000000
theorem w75 {v o : SV} {P : List (SV × List Int)} {of : List Int} {b : Nat} {t : TypeId} {kd : Kind} {h : Heap} (hv : NsR (intEl .i64) (Now h) v P) (hb : h.get b = some (.cells t kd [o])) (ho : SlR (intEl .i64) (Now h) o of) (hl : Short P) (hol : of.length ≤ 1000000) :
    Wc DD 75 [.sc v, .sc (.func 67 [(b, 0)])] h fun w h' => w = i64 (idxP (badP of) (P.map Prod.snd)) ∧ h' = h := by
  have hs := Sep.entry h
  have hln := hv.ln
  have hv1 := hv.1
  have hl1 := hl.1
  refine W_enter d75 ?_
  show W _ (.code m75_code [.sc v, .sc (.func 67 [(b, 0)]), undefA, undefA, undefA, undefA, undefA, undefA, undefA, undefA, undefA, undefA, undefA, undefA, undefA, undefA, undefA, undefA, undefA] _) _
  unfold m75_code
  repeat' (first
    | (refine K_ops ?_; first
      | refine W_fastB rfl ?_
      | refine W_nil ?_
      | (refine W_lenL rfl (by first | assumption | exact SlR.ln (by assumption) | exact AccS.ln (by assumption) | exact OwnS.ln (by assumption) | exact VwO.ln (by assumption) | exact OwnP.ln (by assumption) | exact Len.sl) ?_; refine W_norm rfl ?_)
    )
    | (refine K_code ?_; first
      | refine W_seq ?_
      | refine W_ops ?_
      | refine W_block ?_
    )
    | refine seqK_n ?_)
  refine W_loopB [4, 5, 8, 9, 10, 11, 12, 13, 14, 15, 16, 17, 18] [0, 1, 2, 3, 4, 5, 6, 7, 8, 9, 10, 11, 12, 13, 14, 15, 16, 17, 18] (fun n' sl h' => ∃ (i : Nat), sl = [(8, i64 (i : Int))] ∧ n' = P.length - i ∧ i ≤ P.length ∧ (∀ j, j < i → badP of ((P.map Prod.snd).getD j []) = false) ∧ h' = h) ?_ ?_
  · refine ⟨_, _, ⟨0, rfl, rfl, Nat.zero_le _, (fun j hj => by omega), rfl⟩, EnvB.of rfl⟩
  rintro _ _ us _ h2 ⟨i, rfl, rfl, hi, hz, rfl⟩ he
  refine W_spell he rfl ?_
  clear he
  unfold m75_l2
  have hml : (P.map Prod.snd).length = P.length := List.length_map _
  have hml1 : (P.map Prod.fst).length = P.length := List.length_map _
  by_cases hlt : i < P.length
  · have hrow := hv.row hlt
    have hrl : ((P.map Prod.snd).getD i []).length ≤ 1000000 := by
      rw [getD_map_snd P i .nils []]
      exact hl.2 _ (getD_mem hlt)
    repeat' (first
      | (refine K_ops ?_; first
        | refine W_fastB rfl ?_
        | refine W_nil ?_
        | (refine W_callvN 67 rfl rfl (w67 hrow hb ho hrl hol) rfl ?_; rintro _ h ⟨rfl, rfl⟩; refine W_norm rfl ?_)
        | (refine K_bin ?_; first
          | (refine W_add rfl rfl (IntWalk.i64_in _ (by first | omega | (simp only [lenS]; omega))) ?_; refine W_norm rfl ?_)
        )
        | (refine K_index ?_; first
          | (refine W_indexR rfl rfl (by assumption) rfl ⟨(by first | omega | (simp only [lenS]; omega)), (by first | omega | (simp only [lenS]; omega))⟩ ?_; intro _ _ _; refine W_norm rfl ?_)
        )
        | (refine K_load ?_; first
          | (refine W_loadR hs rfl (by assumption) rfl ?_; refine W_norm rfl ?_)
        )
      )
      | (refine K_code ?_; first
        | refine W_seq ?_
        | refine W_ops ?_
        | (refine W_cond rfl (fun hc => ?_) (fun hc => ?_) <;> (try rw [hc]) <;> (try simp only [cleanS, reduceCtorEq] at hc) <;> (try (exfalso; omega)) <;> (try refine W_norm rfl ?_))
        | refine W_skip ?_
        | refine W_ret ?_
        | refine W_block ?_
      )
      | refine seqK_n ?_
      | refine seqK_r ?_
      | refine blockK_r ?_
      | refine blockK_n ?_
      | refine invK_r ?_
      | refine invK_n ?_
      | (refine fnK_r rfl ?_; try dsimp only [gd_z, gd_s]))
    · exact ⟨_, rfl, by rw [idxP_at [] (by rw [hml]; exact hlt) hz hc], rfl⟩
    · refine ⟨_, ?_, _, ⟨i + 1, rfl, rfl, ?_, ?_, rfl⟩, EnvB.of rfl⟩
      · omega
      · omega
      · intro j hj
        rcases Nat.lt_or_ge j i with h1 | h1
        · exact hz j h1
        · obtain rfl : j = i := by omega
          exact hc
  · obtain rfl : i = P.length := by omega
    repeat' (first
      | (refine K_ops ?_; first
        | refine W_fastB rfl ?_
        | refine W_nil ?_
      )
      | (refine K_code ?_; first
        | refine W_seq ?_
        | refine W_ops ?_
        | (refine W_cond rfl (fun hc => ?_) (fun hc => ?_) <;> (try rw [hc]) <;> (try simp only [cleanS, reduceCtorEq] at hc) <;> (try (exfalso; omega)) <;> (try refine W_norm rfl ?_))
        | refine W_ret ?_
        | refine W_exit ?_
      )
      | refine seqK_n ?_
      | refine seqK_x ?_
      | refine blockK_e ?_
      | refine invK_x ?_
      | (refine fnK_r rfl ?_; try dsimp only [gd_z, gd_s]))
    exact ⟨_, rfl, by rw [idxP_none [] (by rw [hml]; exact hz)], rfl⟩
theorem w66 {v o : SV} {P : List (SV × List Int)} {of : List Int} {b : Nat} {t : TypeId} {kd : Kind} {h : Heap} (hv : NsR (intEl .i64) (Now h) v P) (hb : h.get b = some (.cells t kd [o])) (ho : SlR (intEl .i64) (Now h) o of) (hl : Short P) (hol : of.length ≤ 1000000) :
    Wc DD 66 [.sc v, .sc (.func 67 [(b, 0)])] h fun w h' => w = bo ((P.map Prod.snd).any (badP of)) ∧ h' = h := by
  refine W_enter d66 ?_
  show W _ (.code m66_code [.sc v, .sc (.func 67 [(b, 0)]), undefA, undefA, undefA, undefA, undefA, undefA, undefA] _) _
  unfold m66_code
  repeat' (first
    | (refine K_ops ?_; first
      | refine W_fastB rfl ?_
      | refine W_nil ?_
      | (refine K_call ?_; first
        | (refine W_callsN 75 rfl (w75 hv hb ho hl hol) rfl ?_; rintro _ h ⟨rfl, rfl⟩; refine W_norm rfl ?_)
      )
    )
    | (refine K_code ?_; first
      | refine W_seq ?_
      | refine W_ops ?_
      | refine W_ret ?_
    )
    | refine seqK_n ?_
    | (refine fnK_r rfl ?_; try dsimp only [gd_z, gd_s]))
  exact ⟨_, rfl, by rw [← idxP_ge], rfl⟩
theorem w52 {v o : SV} {P : List (SV × List Int)} {of : List Int} {h : Heap} (hv : NsR (intEl .i64) (Now h) v P) (ho : SlR (intEl .i64) (Now h) o of) (hl : Short P) (hol : of.length ≤ 1000000) :
    Wc DD 52 [.sc v, .sc o] h fun w h' => w = bo (allL (P.map Prod.snd) of) ∧ Sep (Now h) [] h' := by
  have hs := Sep.entry h
  have hln := hv.ln
  refine W_enter d52 ?_
  show W _ (.code m52_code [.sc v, .sc o, undefA, undefA, undefA, undefA, undefA, undefA, undefA, undefA, undefA, undefA, undefA, undefA] _) _
  unfold m52_code
  repeat' (first
    | (refine K_ops ?_; first
      | refine W_fastB rfl ?_
      | refine W_nil ?_
      | (refine K_guard ?_; first
        | refine W_guard_on rfl ?_
        | refine W_guard_off rfl rfl (W_norm rfl ?_)
        | (refine W_guardT rfl (fun hc => ?_) (fun hc => ?_) <;> (try rw [hc]) <;> (try simp only [cleanS, reduceCtorEq] at hc) <;> (try (exfalso; omega)) <;> (try refine W_norm rfl ?_))
      )
      | (refine K_call ?_; first
        | (refine W_callsN 66 rfl (w66 (hv.now hs) (hs.at1 0 rfl) (ho.now hs) hl hol) rfl ?_; rintro _ h ⟨rfl, rfl⟩; refine W_norm rfl ?_)
      )
      | (refine W_lenL rfl (by first | assumption | exact SlR.ln (by assumption) | exact AccS.ln (by assumption) | exact OwnS.ln (by assumption) | exact VwO.ln (by assumption) | exact OwnP.ln (by assumption) | exact Len.sl) ?_; refine W_norm rfl ?_)
      | (refine K_pick ?_; first
        | refine W_pick_t rfl rfl (W_norm rfl ?_)
        | refine W_pick_f rfl rfl (W_norm rfl ?_)
      )
      | (refine W_boxS hs rfl rfl ?_; clear hs; intro bx _ hs; try simp only [setS] at hs; refine W_norm rfl ?_)
    )
    | (refine K_code ?_; first
      | refine W_seq ?_
      | refine W_ops ?_
      | refine W_ret ?_
    )
    | refine seqK_n ?_
    | (refine fnK_r rfl ?_; try dsimp only [gd_z, gd_s]))
  all_goals
    refine ⟨_, rfl, congrArg bo ?_, hs.none⟩
    unfold allL
    rw [List.length_map]
    first
      | (rw [decide_eq_true (show 0 < P.length by omega)]; rfl)
      | (rw [decide_eq_false (show ¬ 0 < P.length by omega)]; rfl)
theorem w40 {v : SV} {P : List (SV × List Int)} {h : Heap} (hv : NsR (intEl .i64) (Now h) v P) (hl : Short P) : Wc DD 40 [.sc v] h fun w h' => w = i64 (firstP (P.map Prod.snd)) ∧ h' = h := by
  have hs := Sep.entry h
  have hln := hv.ln
  have hv1 := hv.1
  have hml : (P.map Prod.snd).length = P.length := List.length_map _
  have hml1 : (P.map Prod.fst).length = P.length := List.length_map _
  refine W_enter d40 ?_
  show W _ (.code m40_code [.sc v, undefA, undefA, undefA, undefA, undefA, undefA, undefA, undefA, undefA, undefA, undefA, undefA, undefA, undefA, undefA, undefA, undefA] _) _
  unfold m40_code
  unfold firstP
  rw [hml]
  by_cases h0 : P.length = 0
  · rw [if_pos h0]
    repeat' (first
      | (refine K_ops ?_; first
        | refine W_fastB rfl ?_
        | refine W_nil ?_
        | (refine W_lenL rfl (by first | assumption | exact SlR.ln (by assumption) | exact AccS.ln (by assumption) | exact OwnS.ln (by assumption) | exact VwO.ln (by assumption) | exact OwnP.ln (by assumption) | exact Len.sl) ?_; refine W_norm rfl ?_)
      )
      | (refine K_code ?_; first
        | refine W_seq ?_
        | refine W_ops ?_
        | (refine W_cond rfl (fun hc => ?_) (fun hc => ?_) <;> (try rw [hc]) <;> (try simp only [cleanS, reduceCtorEq] at hc) <;> (try (exfalso; omega)) <;> (try refine W_norm rfl ?_))
        | refine W_ret ?_
        | refine W_block ?_
      )
      | refine seqK_n ?_
      | refine seqK_r ?_
      | refine blockK_r ?_
      | (refine fnK_r rfl ?_; try dsimp only [gd_z, gd_s]))
    exact ⟨_, rfl, rfl, rfl⟩
  · rw [if_neg h0]
    have hrow := hv.row (show 0 < P.length by omega)
    have hrl := hrow.ln
    generalize hX : (P.map Prod.snd).getD 0 [] = X at *
    by_cases h1 : X.length = 1
    · rw [if_neg (fun k => k h1)]
      repeat' (first
        | (refine K_ops ?_; first
          | refine W_fastB rfl ?_
          | refine W_nil ?_
          | (refine W_lenL rfl (by first | assumption | exact SlR.ln (by assumption) | exact AccS.ln (by assumption) | exact OwnS.ln (by assumption) | exact VwO.ln (by assumption) | exact OwnP.ln (by assumption) | exact Len.sl) ?_; refine W_norm rfl ?_)
          | (refine K_index ?_; first
            | (refine W_indexR rfl rfl (by assumption) rfl ⟨(by first | omega | (simp only [lenS]; omega)), (by first | omega | (simp only [lenS]; omega))⟩ ?_; intro _ _ _; refine W_norm rfl ?_)
          )
          | (refine K_load ?_; first
            | (refine W_loadR hs rfl (by assumption) rfl ?_; refine W_norm rfl ?_)
          )
        )
        | (refine K_code ?_; first
          | refine W_seq ?_
          | refine W_ops ?_
          | (refine W_cond rfl (fun hc => ?_) (fun hc => ?_) <;> (try rw [hc]) <;> (try simp only [cleanS, reduceCtorEq] at hc) <;> (try (exfalso; omega)) <;> (try refine W_norm rfl ?_))
          | refine W_skip ?_
          | refine W_ret ?_
          | refine W_block ?_
        )
        | refine seqK_n ?_
        | refine blockK_n ?_
        | (refine fnK_r rfl ?_; try dsimp only [gd_z, gd_s]))
      exact ⟨_, rfl, rfl, rfl⟩
    · rw [if_pos h1]
      repeat' (first
        | (refine K_ops ?_; first
          | refine W_fastB rfl ?_
          | refine W_nil ?_
          | (refine W_lenL rfl (by first | assumption | exact SlR.ln (by assumption) | exact AccS.ln (by assumption) | exact OwnS.ln (by assumption) | exact VwO.ln (by assumption) | exact OwnP.ln (by assumption) | exact Len.sl) ?_; refine W_norm rfl ?_)
          | (refine K_index ?_; first
            | (refine W_indexR rfl rfl (by assumption) rfl ⟨(by first | omega | (simp only [lenS]; omega)), (by first | omega | (simp only [lenS]; omega))⟩ ?_; intro _ _ _; refine W_norm rfl ?_)
          )
          | (refine K_load ?_; first
            | (refine W_loadR hs rfl (by assumption) rfl ?_; refine W_norm rfl ?_)
          )
        )
        | (refine K_code ?_; first
          | refine W_seq ?_
          | refine W_ops ?_
          | (refine W_cond rfl (fun hc => ?_) (fun hc => ?_) <;> (try rw [hc]) <;> (try simp only [cleanS, reduceCtorEq] at hc) <;> (try (exfalso; omega)) <;> (try refine W_norm rfl ?_))
          | refine W_ret ?_
          | refine W_block ?_
        )
        | refine seqK_n ?_
        | refine seqK_r ?_
        | refine blockK_r ?_
        | (refine fnK_r rfl ?_; try dsimp only [gd_z, gd_s]))
      exact ⟨_, rfl, rfl, rfl⟩

abbrev evA (k r : Int) (f : UInt8) (m : List UInt8) (p : SV) (t : List UInt8) : AV := .agg [.int .i64 k, .int .i32 r, .int .u8 (f.toNat : Int), .str m, p, .str t]
theorem w37 {k r : Int} {f : UInt8} {m t : List UInt8} {p : SV} {P : List (SV × List Int)} {h : Heap} (hp : NsR (intEl .i64) (Now h) p P) (hl : Short P) :
    Wc DD 37 [evA k r f m p t] h fun v h' => v = bo (csiB f m (P.map Prod.snd)) ∧ Sep (Now h) [] h' := by
  have hs := Sep.entry h
  have hfl := f.toNat_lt
  have hil : indexByteA lettersC f.toNat ≥ 0 ∨ indexByteA lettersC f.toNat < 0 := by omega
  refine W_enter d37 ?_
  show W _ (.code m37_code [.agg [.int .i64 k, .int .i32 r, .int .u8 (f.toNat : Int), .str m, p, .str t], undefA, undefA, undefA, undefA, undefA, undefA, undefA, undefA, undefA, undefA, undefA, undefA, undefA, undefA, undefA, undefA, undefA, undefA, undefA, undefA, undefA, undefA, undefA, undefA, undefA, undefA, undefA, undefA, undefA, undefA, undefA, undefA, undefA, undefA, undefA, undefA, undefA, undefA, undefA, undefA, undefA, undefA, undefA, undefA, undefA] _) _
  unfold m37_code
  repeat' (first
    | (refine K_ops ?_; first
      | refine W_fastB rfl ?_
      | refine W_nil ?_
      | (refine W_buildS (intEl .i64) hs (cs := [.int .i64 1, .int .i64 6, .int .i64 7, .int .i64 25, .int .i64 1049, .int .i64 2004]) rfl rfl ?_; clear hs; intro v' c' h6 ha hv' hs; refine W_norm rfl ?_)
      | (refine K_guard ?_; first
        | refine W_guard_on rfl ?_
        | refine W_guard_off rfl rfl (W_norm rfl ?_)
        | refine W_guard_u rfl (W_norm rfl ?_)
        | (refine W_guardT rfl (fun hc => ?_) (fun hc => ?_) <;> (try rw [hc]) <;> (try simp only [cleanS, reduceCtorEq] at hc) <;> (try (exfalso; omega)) <;> (try refine W_norm rfl ?_))
        | (refine W_guardF rfl (fun hc => ?_) (fun hc => ?_) <;> (try rw [hc]) <;> (try simp only [cleanS, reduceCtorEq] at hc) <;> (try (exfalso; omega)) <;> (try refine W_norm rfl ?_))
      )
      | (refine K_call ?_; first
        | (refine W_callsN 38 rfl (w38 lettersC (f.toNat : Int) _) rfl ?_; rintro _ h ⟨rfl, rfl⟩; refine W_norm rfl ?_)
        | (refine W_callsN 52 rfl (w52 (of := [4]) (hp.now hs) (AccS.now (by assumption) hs (by simp)) hl (by simp)) rfl ?_; rintro _ h ⟨rfl, t⟩; replace hs := hs.call t; try simp only [setS] at hs; refine W_norm rfl ?_)
        | (refine W_callsN 52 rfl (w52 (of := [1, 6, 7, 25, 1049, 2004]) (hp.now hs) (OwnS.now (by assumption) hs (by simp)) hl (by simp)) rfl ?_; rintro _ h ⟨rfl, t⟩; replace hs := hs.call t; try simp only [setS] at hs; refine W_norm rfl ?_)
      )
      | (refine K_pick ?_; first
        | refine W_pick_t rfl rfl (W_norm rfl ?_)
        | refine W_pick_f rfl rfl (W_norm rfl ?_)
      )
      | (refine K_load ?_; first
        | (refine W_loadC hs 0 rfl rfl rfl ?_; refine W_norm rfl ?_)
      )
      | (refine W_boxS hs rfl rfl ?_; clear hs; intro bx _ hs; try simp only [setS] at hs; refine W_norm rfl ?_)
      | (refine K_bslice ?_; first
        | (refine W_buildS1 (intEl .i64) hs rfl rfl ?_; clear hs; intro _ _ _ _ hs; try simp only [setS] at hs; refine W_norm rfl ?_)
      )
    )
    | (refine K_code ?_; first
      | refine W_seq ?_
      | refine W_ops ?_
      | (refine W_cond rfl (fun hc => ?_) (fun hc => ?_) <;> (try rw [hc]) <;> (try simp only [cleanS, reduceCtorEq] at hc) <;> (try (exfalso; omega)) <;> (try refine W_norm rfl ?_))
      | refine W_skip ?_
      | refine W_ret ?_
      | refine W_block ?_
    )
    | refine seqK_n ?_
    | refine seqK_r ?_
    | refine blockK_r ?_
    | refine blockK_n ?_
    | (refine fnK_r rfl ?_; try dsimp only [gd_z, gd_s]))
  all_goals
    refine ⟨_, rfl, congrArg bo ?_, hs.none⟩
    clear hs hp hl
    unfold csiB inL modeB
    first
      | (simp [*]; done)
      | (simp [*]; omega)
      | grind
      | skip
end Go.Proofs.YtggkbkbhegcbkaaDoor
/- The gate: Classify, walked. -/
set_option linter.unusedSimpArgs false
set_option linter.unusedVariables false
set_option maxHeartbeats 1000000
set_option maxRecDepth 100000
namespace Go.Proofs.YtggkbkbhegcbkaaDoor
open Go Go.Jx

theorem w22 {k r : Int} {f : UInt8} {m t : List UInt8} {p : SV} {P : List (SV × List Int)} {h : Heap} (hp : NsR (intEl .i64) (Now h) p P) (hl : Short P) (hm : m.length ≤ 100000) :
    Wc DD 22 [evA k r f m p t] h fun v h' => v = i64 (asksL f m (P.map Prod.snd)) ∧ Sep (Now h) [] h' := by
  have hs := Sep.entry h
  refine W_enter d22 ?_
  show W _ (.code m22_code [.agg [.int .i64 k, .int .i32 r, .int .u8 (f.toNat : Int), .str m, p, .str t], undefA, undefA, undefA, undefA, undefA, undefA, undefA, undefA, undefA, undefA, undefA, undefA, undefA, undefA, undefA, undefA, undefA, undefA, undefA, undefA, undefA, undefA, undefA, undefA, undefA, undefA, undefA, undefA, undefA, undefA, undefA, undefA, undefA, undefA, undefA] _) _
  unfold m22_code
  repeat' (first
    | (refine K_ops ?_; first
      | refine W_fastB rfl ?_
      | refine W_nil ?_
      | (refine W_bytesStr (L := [f]) (bytes_of (AccS.now (by assumption) hs (by simp))) rfl ?_; refine W_norm rfl ?_)
      | (refine K_guard ?_; first
        | refine W_guard_on rfl ?_
        | refine W_guard_off rfl rfl (W_norm rfl ?_)
        | (refine W_guardF rfl (fun hc => ?_) (fun hc => ?_) <;> (try rw [hc]) <;> (try simp only [cleanS, reduceCtorEq] at hc) <;> (try (exfalso; omega)) <;> (try refine W_norm rfl ?_))
      )
      | (refine K_call ?_; first
        | (refine W_callsN 40 rfl (w40 (hp.now hs) hl) rfl ?_; rintro _ h ⟨rfl, rfl⟩; refine W_norm rfl ?_)
      )
      | (refine K_bin ?_; first
        | (refine W_sub rfl rfl (IntWalk.i64_in _ (by first | omega | (simp only [lenS]; omega))) ?_; refine W_norm rfl ?_)
        | (refine W_cat rfl rfl (by first | omega | (simp only [lenS]; omega)) ?_; refine W_norm rfl ?_)
      )
      | (refine K_pick ?_; first
        | refine W_pick_t rfl rfl (W_norm rfl ?_)
        | refine W_pick_f rfl rfl (W_norm rfl ?_)
      )
      | (refine K_load ?_; first
        | (refine W_loadC hs 0 rfl rfl rfl ?_; refine W_norm rfl ?_)
      )
      | (refine W_boxS hs rfl rfl ?_; clear hs; intro bx _ hs; try simp only [setS] at hs; refine W_norm rfl ?_)
      | (refine K_bslice ?_; first
        | (refine W_buildS1 (intEl .u8) hs rfl rfl ?_; clear hs; intro _ _ _ _ hs; try simp only [setS] at hs; refine W_norm rfl ?_)
      )
    )
    | (refine K_code ?_; first
      | refine W_seq ?_
      | refine W_ops ?_
      | refine W_cond_t rfl ?_
      | (refine W_cond rfl (fun hc => ?_) (fun hc => ?_) <;> (try rw [hc]) <;> (try simp only [cleanS, reduceCtorEq] at hc) <;> (try (exfalso; omega)) <;> (try refine W_norm rfl ?_))
      | refine W_skip ?_
      | refine W_ret ?_
      | refine W_block ?_
    )
    | refine seqK_n ?_
    | refine seqK_r ?_
    | refine blockK_r ?_
    | refine blockK_n ?_
    | (refine fnK_r rfl ?_; try dsimp only [gd_z, gd_s]))
  all_goals
    refine ⟨_, rfl, congrArg i64 ?_, hs.none⟩
    clear hs hp hl
    unfold asksL
    first
      | (simp [*]; done)
      | (simp [*]; omega)
      | skip
theorem w20 {k r : Int} {f : UInt8} {m t : List UInt8} {p : SV} {P : List (SV × List Int)} {h : Heap} (hp : NsR (intEl .i64) (Now h) p P) (hl : Short P) (hm : m.length ≤ 100000) :
    Wc DD 20 [evA k r f m p t] h fun v h' => v = bo (gridB k f m (P.map Prod.snd)) ∧ Sep (Now h) [] h' := by
  have hs := Sep.entry h
  have hfl := f.toNat_lt
  refine W_enter d20 ?_
  show W _ (.code m20_code [.agg [.int .i64 k, .int .i32 r, .int .u8 (f.toNat : Int), .str m, p, .str t], undefA, undefA, undefA, undefA, undefA, undefA, undefA, undefA, undefA, undefA, undefA, undefA, undefA, undefA, undefA, undefA, undefA, undefA, undefA, undefA, undefA, undefA, undefA, undefA, undefA, undefA, undefA, undefA, undefA, undefA, undefA, undefA, undefA, undefA, undefA, undefA, undefA, undefA, undefA, undefA, undefA, undefA, undefA, undefA] _) _
  unfold m20_code
  repeat' (first
    | (refine K_ops ?_; first
      | refine W_fastB rfl ?_
      | refine W_nil ?_
      | (refine K_guard ?_; first
        | refine W_guard_on rfl ?_
        | refine W_guard_off rfl rfl (W_norm rfl ?_)
        | refine W_guard_u rfl (W_norm rfl ?_)
        | (refine W_guardT rfl (fun hc => ?_) (fun hc => ?_) <;> (try rw [hc]) <;> (try simp only [cleanS, reduceCtorEq] at hc) <;> (try (exfalso; omega)) <;> (try refine W_norm rfl ?_))
        | (refine W_guardF rfl (fun hc => ?_) (fun hc => ?_) <;> (try rw [hc]) <;> (try simp only [cleanS, reduceCtorEq] at hc) <;> (try (exfalso; omega)) <;> (try refine W_norm rfl ?_))
      )
      | (refine K_call ?_; first
        | (refine W_callsN 38 rfl (w38 lettersE (f.toNat : Int) _) rfl ?_; rintro _ h ⟨rfl, rfl⟩; refine W_norm rfl ?_)
        | (refine W_callsN 37 rfl (w37 (hp.now hs) hl) rfl ?_; rintro _ h ⟨rfl, t⟩; replace hs := hs.call t; try simp only [setS] at hs; refine W_norm rfl ?_)
      )
      | (refine K_pick ?_; first
        | refine W_pick_t rfl rfl (W_norm rfl ?_)
        | refine W_pick_f rfl rfl (W_norm rfl ?_)
      )
      | (refine K_load ?_; first
        | (refine W_loadC hs 0 rfl rfl rfl ?_; refine W_norm rfl ?_)
        | (refine W_loadCA hs 0 rfl rfl rfl ?_; refine W_norm rfl ?_)
      )
      | (refine W_boxS hs rfl rfl ?_; clear hs; intro bx _ hs; try simp only [setS] at hs; refine W_norm rfl ?_)
    )
    | (refine K_code ?_; first
      | refine W_seq ?_
      | refine W_ops ?_
      | (refine W_cond rfl (fun hc => ?_) (fun hc => ?_) <;> (try rw [hc]) <;> (try simp only [cleanS, reduceCtorEq] at hc) <;> (try (exfalso; omega)) <;> (try refine W_norm rfl ?_))
      | refine W_skip ?_
      | refine W_ret ?_
      | refine W_block ?_
    )
    | refine seqK_n ?_
    | refine seqK_r ?_
    | refine blockK_r ?_
    | refine blockK_n ?_
    | (refine fnK_r rfl ?_; try dsimp only [gd_z, gd_s]))
  all_goals
    refine ⟨_, rfl, congrArg bo ?_, hs.none⟩
    clear hs hp hl
    unfold gridB inL
    first
      | (simp [*]; done)
      | (simp [*]; omega)
      | grind
      | skip
theorem cutL_len (s : List UInt8) (b : UInt8) : (cutL s b).1.length ≤ s.length ∧ (cutL s b).2.1.length ≤ s.length := by
  unfold cutL
  split
  · simp
  · simp only [List.length_take, List.length_drop]; omega
theorem w21 {t : List UInt8} {h : Heap} (ht : t.length ≤ 15000) : Wc DD 21 [.sc (.str t)] h fun v h' => v = .agg (flowC (sysL t)) ∧ Sep (Now h) [] h' := by
  have hs := Sep.entry h
  obtain ⟨c1, c2⟩ := cutL_len t 59
  obtain ⟨c3, c4⟩ := cutL_len (cutL t 59).2.1 59
  unfold sysL
  refine W_enter d21 ?_
  show W _ (.code m21_code [.sc (.str t), undefA, undefA, undefA, undefA, undefA, undefA, undefA, undefA, undefA, undefA, undefA, undefA, undefA, undefA, undefA, undefA, undefA, undefA, undefA, undefA, undefA, undefA, undefA, undefA, undefA, undefA, undefA, undefA, undefA, undefA, undefA, undefA, undefA, undefA, undefA, undefA, undefA, undefA, undefA, undefA, undefA, undefA, undefA, undefA, undefA, undefA, undefA, undefA, undefA, undefA, undefA, undefA, undefA, undefA, undefA, undefA, undefA, undefA, undefA, undefA, undefA, undefA] _) _
  unfold m21_code
  repeat' (first
    | (refine K_ops ?_; first
      | refine W_fastB rfl ?_
      | refine W_nil ?_
      | (refine K_guard ?_; first
        | refine W_guard_on rfl ?_
        | refine W_guard_off rfl rfl (W_norm rfl ?_)
        | (refine W_guardT rfl (fun hc => ?_) (fun hc => ?_) <;> (try rw [hc]) <;> (try simp only [cleanS, reduceCtorEq] at hc) <;> (try (exfalso; omega)) <;> (try refine W_norm rfl ?_))
      )
      | (refine K_call ?_; first
        | (refine W_callsN 39 rfl (w39 t 59 (by omega) _) rfl ?_; rintro _ h ⟨rfl, rfl⟩; refine W_norm rfl ?_)
        | (refine W_callsN 39 rfl (w39 (cutL t 59).2.1 59 (by omega) _) rfl ?_; rintro _ h ⟨rfl, rfl⟩; refine W_norm rfl ?_)
        | (refine W_callsN 11 rfl (w11 (s := (cutL t 59).2.1) (by omega)) rfl ?_; rintro _ h ⟨rfl, t⟩; replace hs := hs.call t; try simp only [setS] at hs; refine W_norm rfl ?_)
        | (refine W_callsN 13 rfl (w13 (s := (cutL (cutL t 59).2.1 59).2.1) (by omega)) rfl ?_; rintro _ h ⟨rfl, t⟩; replace hs := hs.call t; try simp only [setS] at hs; refine W_norm rfl ?_)
      )
      | (refine K_pick ?_; first
        | refine W_pick_t rfl rfl (W_norm rfl ?_)
        | refine W_pick_f rfl rfl (W_norm rfl ?_)
      )
      | (refine K_store ?_; first
        | (refine W_storeC hs 0 rfl rfl rfl rfl (by first | decide | assumption) rfl rfl ?_; clear hs; intro _ hs; try simp only [setS] at hs; refine W_norm rfl ?_)
      )
      | (refine W_allocS hs ?_; clear hs; intro al _ hs; try simp only [setS] at hs; refine W_norm rfl ?_)
      | (refine W_buildN rfl ?_; refine W_norm rfl ?_)
    )
    | (refine K_code ?_; first
      | refine W_seq ?_
      | refine W_ops ?_
      | refine W_cond_f rfl ?_
      | (refine W_cond rfl (fun hc => ?_) (fun hc => ?_) <;> (try rw [hc]) <;> (try simp only [cleanS, reduceCtorEq] at hc) <;> (try (exfalso; omega)) <;> (try refine W_norm rfl ?_))
      | refine W_skip ?_
      | refine W_ret ?_
      | refine W_exit ?_
      | refine W_block ?_
    )
    | refine seqK_n ?_
    | refine seqK_r ?_
    | refine seqK_x ?_
    | refine blockK_r ?_
    | refine blockK_n ?_
    | refine blockK_e ?_
    | refine blockK_x rfl ?_
    | (refine fnK_cellS hs 0 rfl rfl rfl rfl ?_))
  all_goals
    refine ⟨_, rfl, congrArg AV.agg ?_, hs.none⟩
    clear hs c1 c2 c3 c4
    first
      | (simp [flowC, *]; done)
      | (simp [flowC, *]; omega)
      | (simp only [Int.not_le, Int.not_lt, gt_iff_lt] at *; simp (disch := omega) [flowC, if_pos, if_neg, *]; done)
      | grind [flowC]
      | skip
theorem w9 {k r : Int} {f : UInt8} {m tx : List UInt8} {p : SV} {P : List (SV × List Int)} {h : Heap} (hp : NsR (intEl .i64) (Now h) p P) (hl : Short P) (hm : m.length ≤ 100000) (ht : k = 5 → tx.length ≤ 15000) :
    Wc DD 9 [evA k r f m p tx] h fun v h' => v = .agg (flowC (classL k f m (P.map Prod.snd) tx)) ∧ Sep (Now h) [] h' := by
  have hs := Sep.entry h
  unfold classL
  refine W_enter d9 ?_
  show W _ (.code m9_code [.agg [.int .i64 k, .int .i32 r, .int .u8 (f.toNat : Int), .str m, p, .str tx], undefA, undefA, undefA, undefA, undefA, undefA, undefA, undefA, undefA, undefA, undefA, undefA, undefA, undefA, undefA, undefA, undefA, undefA, undefA, undefA, undefA, undefA, undefA, undefA, undefA, undefA, undefA, undefA, undefA, undefA, undefA, undefA, undefA, undefA, undefA, undefA] _) _
  unfold m9_code
  repeat' (first
    | (refine K_ops ?_; first
      | refine W_fastB rfl ?_
      | refine W_nil ?_
      | (refine K_guard ?_; first
        | refine W_guard_on rfl ?_
        | refine W_guard_off rfl rfl (W_norm rfl ?_)
        | (refine W_guardT rfl (fun hc => ?_) (fun hc => ?_) <;> (try rw [hc]) <;> (try simp only [cleanS, reduceCtorEq] at hc) <;> (try (exfalso; omega)) <;> (try refine W_norm rfl ?_))
      )
      | (refine K_call ?_; first
        | (refine W_callsN 20 rfl (w20 (hp.now hs) hl hm) rfl ?_; rintro _ h ⟨rfl, t⟩; replace hs := hs.call t; try simp only [setS] at hs; refine W_norm rfl ?_)
        | (refine W_callsN 22 rfl (w22 (hp.now hs) hl hm) rfl ?_; rintro _ h ⟨rfl, t⟩; replace hs := hs.call t; try simp only [setS] at hs; refine W_norm rfl ?_)
        | (refine W_callsN 21 rfl (w21 (t := tx) (ht (by assumption))) rfl ?_; rintro _ h ⟨rfl, t⟩; unfold flowC; replace hs := hs.call t; try simp only [setS] at hs; refine W_norm rfl ?_)
      )
      | (refine K_pick ?_; first
        | refine W_pick_t rfl rfl (W_norm rfl ?_)
        | refine W_pick_f rfl rfl (W_norm rfl ?_)
      )
      | (refine K_load ?_; first
        | (refine W_loadC hs 1 rfl rfl rfl ?_; refine W_norm rfl ?_)
        | (refine W_loadCA hs 1 rfl rfl rfl ?_; refine W_norm rfl ?_)
      )
      | (refine K_store ?_; first
        | (refine W_storeC hs 0 rfl rfl rfl rfl (by first | decide | assumption) rfl rfl ?_; clear hs; intro _ hs; try simp only [setS] at hs; refine W_norm rfl ?_)
      )
      | (refine W_allocS hs ?_; clear hs; intro al _ hs; try simp only [setS] at hs; refine W_norm rfl ?_)
      | (refine W_boxS hs rfl rfl ?_; clear hs; intro bx _ hs; try simp only [setS] at hs; refine W_norm rfl ?_)
      | (refine W_buildN rfl ?_; refine W_norm rfl ?_)
    )
    | (refine K_code ?_; first
      | refine W_seq ?_
      | refine W_ops ?_
      | refine W_cond_f rfl ?_
      | (refine W_cond rfl (fun hc => ?_) (fun hc => ?_) <;> (try rw [hc]) <;> (try simp only [cleanS, reduceCtorEq] at hc) <;> (try (exfalso; omega)) <;> (try refine W_norm rfl ?_))
      | refine W_skip ?_
      | refine W_ret ?_
      | refine W_block ?_
    )
    | refine seqK_n ?_
    | refine seqK_r ?_
    | refine blockK_r ?_
    | refine blockK_n ?_
    | (refine fnK_cellS hs 0 rfl rfl rfl rfl ?_))
  all_goals
    refine ⟨_, rfl, congrArg AV.agg ?_, hs.none⟩
    clear hs hp hl
    first
      | (simp [flowC, *]; done)
      | (simp [flowC, *]; omega)
      | (simp only [Int.not_le, Int.not_lt, gt_iff_lt] at *; simp (disch := omega) [flowC, if_pos, if_neg, *]; done)
      | grind [flowC]
      | skip
end Go.Proofs.YtggkbkbhegcbkaaDoor
