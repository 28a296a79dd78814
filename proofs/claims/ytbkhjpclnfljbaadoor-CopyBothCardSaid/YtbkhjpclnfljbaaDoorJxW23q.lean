/- Views: the law CopyBoth. -/
import Derived.Test.YtbkhjpclnfljbaaDoorJxW23p
set_option linter.unusedSimpArgs false
set_option linter.unusedVariables false
set_option maxHeartbeats 1000000
set_option maxRecDepth 100000
namespace Go.Proofs.YtbkhjpclnfljbaaDoor
open Go Go.Jx

theorem W_rangeS {D : Nat → Option MFunc} {Q : Ex → List AV → Heap → Prop} {e : List AV} {h : Heap} {dst : Option Nat} {r : List MI} {R : Ro} {M : List Hp} {x : Rnd} {t : List UInt8} (s : Sep R M h) (hx : rd e x = .sc (.str t)) (K : ∀ id h', Sep R ([(id, .iter t 0)] :: M) h' → W D (.ops r (put e dst (.sc (.ptr id 0))) h') Q) : W D (.ops (⟨dst, .range x, none⟩ :: r) e h) Q :=
  W_act rfl (v := .sc (.ptr h.n 0)) (h' := h.push (.iter t 0)) (by show (match rd e x with | .sc (.str s) => some (AV.sc (.ptr h.n 0), h.push (.iter s 0)) | _ => none) = _; rw [hx]) (K _ _ (s.push _))
theorem W_nextS {D : Nat → Option MFunc} {Q : Ex → List AV → Heap → Prop} {e : List AV} {h : Heap} {dst : Option Nat} {r : List MI} {R : Ro} {M : List Hp} {x : Rnd} {t : List UInt8} {id p : Nat} (s : Sep R M h) (k : Nat) (hx : rd e x = .sc (.ptr id 0)) (hk : M[k]? = some [(id, .iter t p)]) (hp : p < t.length)
    (K : ∀ c h', Sep R (M.set k [(id, .iter t (p + (Utf8.decode ⟨t.toArray⟩ p).2))]) h' → W D (.ops r (put e dst (.tup [.sc (.bool true), .sc (.int .i64 (p : Int)), .sc (.int .i32 c)])) h') Q) : W D (.ops (⟨dst, .next x, none⟩ :: r) e h) Q := by
  refine W_act rfl (v := .tup [.sc (.bool true), .sc (.int .i64 (p : Int)), .sc (.int .i32 ((Utf8.decode ⟨t.toArray⟩ p).1 : Int))]) (h' := h.set id (.iter t (p + (Utf8.decode ⟨t.toArray⟩ p).2))) ?_ (K _ _ (s.turn k _ hk))
  show nextA (rd e x) h = _
  rw [hx]
  simp only [nextA, s.at1 k hk, if_pos hp]
theorem W_nextS0 {D : Nat → Option MFunc} {Q : Ex → List AV → Heap → Prop} {e : List AV} {h : Heap} {dst : Option Nat} {r : List MI} {R : Ro} {M : List Hp} {x : Rnd} {t : List UInt8} {id p : Nat} (s : Sep R M h) (k : Nat) (hx : rd e x = .sc (.ptr id 0)) (hk : M[k]? = some [(id, .iter t p)]) (hp : ¬ p < t.length) (K : W D (.ops r (put e dst (.tup [.sc (.bool false)])) h) Q) : W D (.ops (⟨dst, .next x, none⟩ :: r) e h) Q := by
  refine W_act rfl (v := .tup [.sc (.bool false)]) (h' := h) ?_ K
  show nextA (rd e x) h = _
  rw [hx]
  simp only [nextA, s.at1 k hk, if_neg hp]

/-- One cell's text. -/
theorem sel_one (L : List Ln) (p : Spot) : selT L p p = [] ∨ ∃ r, selT L p p = utf8 r := by
  have h1 : selA p p = p ∧ selZ p p = p := by unfold selA selZ; rw [bef_irr]; simp
  unfold selT
  rw [h1.1, h1.2, show (p.2 - p.2 + 1).toNat = 1 by omega]
  have h2 : linesT L p p 1 = rowT L p p p.2 := by
    rw [linesT_succ]
    simp [linesT]
  rw [h2]
  unfold rowT
  rw [if_neg (by omega), List.nil_append, if_pos rfl, if_pos rfl]
  unfold partT
  simp only
  have key : ∀ b' : Int, b' ≤ p.1 → (segB (L.getD p.2.toNat ln0).cells p.1.toNat (b' - p.1 + 1).toNat = [] ∨ ∃ r, segB (L.getD p.2.toNat ln0).cells p.1.toNat (b' - p.1 + 1).toNat = utf8 r) := by
    intro b' hb
    by_cases hb2 : b' = p.1
    · right
      rw [show (b' - p.1 + 1).toNat = 0 + 1 by omega, segB_succ, segB_zero, List.nil_append, if_pos (.inr rfl)]
      exact ⟨_, rfl⟩
    · left
      rw [show (b' - p.1 + 1).toNat = 0 by omega, segB_zero]
  have hk := key (if p.1 = ((L.getD p.2.toNat ln0).cells.length : Int) - 1 ∧ (L.getD p.2.toNat ln0).joined = true ∧ (L.getD p.2.toNat ln0).short = true then p.1 - 1 else p.1) (by split <;> omega)
  generalize segB (L.getD p.2.toNat ln0).cells p.1.toNat ((if p.1 = ((L.getD p.2.toNat ln0).cells.length : Int) - 1 ∧ (L.getD p.2.toNat ln0).joined = true ∧ (L.getD p.2.toNat ln0).short = true then p.1 - 1 else p.1) - p.1 + 1).toNat = S at hk
  split
  · rcases hk with rfl | ⟨r, rfl⟩
    · left; rfl
    · have := trimB_utf8 [] r
      rw [List.nil_append] at this
      rw [this]
      split
      · left; rfl
      · right; exact ⟨r, rfl⟩
  · exact hk

theorem w4 {v : SV} {G : List LnC} {n ax ay bx by' : Int} {h : Heap} (hv : LnsR (Now h) v G) (hl : G.length ≤ 2 ^ 63 - 1) (hl2 : ∀ g ∈ G, g.2.length ≤ 2 ^ 63 - 1) (hr : RunesG G) (hn : -9223372036854775808 ≤ n ∧ n ≤ 9223372036854775807)
    (h1 : -9223372036854775808 ≤ ax ∧ ax ≤ 9223372036854775807) (h2 : -9223372036854775808 ≤ ay ∧ ay ≤ 9223372036854775807) (h3 : -9223372036854775808 ≤ bx ∧ bx ≤ 9223372036854775807) (h4 : -9223372036854775808 ≤ by' ∧ by' ≤ 9223372036854775807) :
    Wc DD 4 [.sc v, i64 n, i64 ax, i64 ay, i64 bx, i64 by'] h fun w h' => w = bo true := by
  have hs := Sep.entry h
  refine W_enter d4 ?_
  show W _ (.code m4_code [.sc v, i64 n, i64 ax, i64 ay, i64 bx, i64 by', undefA, undefA, undefA, undefA, undefA, undefA, undefA, undefA, undefA, undefA, undefA, undefA, undefA, undefA, undefA, undefA, undefA, undefA, undefA, undefA, undefA, undefA, undefA, undefA, undefA, undefA, undefA, undefA, undefA, undefA, undefA, undefA, undefA, undefA, undefA, undefA, undefA, undefA, undefA, undefA, undefA, undefA, undefA, undefA, undefA, undefA, undefA, undefA, undefA, undefA, undefA, undefA, undefA, undefA, undefA, undefA, undefA, undefA, undefA, undefA, undefA, undefA, undefA, undefA, undefA, undefA, undefA, undefA, undefA, undefA, undefA, undefA, undefA, undefA, undefA, undefA, undefA, undefA, undefA, undefA, undefA, undefA, undefA, undefA, undefA, undefA, undefA, undefA, undefA, undefA, undefA, undefA] _) _
  unfold m4_code
  repeat' (first
    | (refine K_ops ?_; first
      | refine W_fastB rfl ?_
      | refine W_nil ?_
      | (refine K_call ?_; first
        | (refine W_callsN 9 rfl (w9 hv hl hl2) rfl ?_; rintro _ h ⟨⟨gb, rfl, hgb⟩, rfl⟩; refine W_norm rfl ?_)
        | (refine W_callsN 10 rfl (w10g _) rfl ?_; rintro _ h ⟨rfl, rfl⟩; refine W_norm rfl ?_)
      )
    )
    | (refine K_code ?_; first
      | refine W_seq ?_
      | refine W_ops ?_
      | (refine W_cond rfl (fun hc => ?_) (fun hc => ?_) <;> (try rw [hc]) <;> (try simp only [decide_eq_true_eq, decide_eq_false_iff_not, beq_iff_eq, beq_eq_false_iff_ne, bne_iff_ne, bne_eq_false_iff_eq, Bool.not_eq_true', Bool.not_eq_false', Int.not_lt, Int.not_le, ne_eq, reduceCtorEq, not_true_eq_false, not_false_eq_true, Decidable.not_not] at hc) <;> (try (exfalso; omega)) <;> (try refine W_norm rfl ?_))
      | refine W_skip ?_
      | refine W_ret ?_
    )
    | refine seqK_n ?_
    | refine seqK_r ?_
    | (refine fnK_r rfl ?_; try dsimp only [gd_z, gd_s]))
  · exact ⟨_, rfl, rfl⟩
  obtain ⟨g1, g2⟩ := hgb (by assumption)
  by_cases hok : okB (G.map lnOf) n
  · have ok0 := okB_ok hok g2 hr
    repeat' (first
      | (refine K_ops ?_; first
        | refine W_fastB rfl ?_
        | refine W_nil ?_
        | (refine W_rangeS hs rfl ?_; clear hs; intro it _ hs; refine W_norm rfl ?_)
        | (refine K_guard ?_; first
          | refine W_guard_on rfl ?_
        )
        | (refine K_call ?_; first
          | (refine W_callsN 11 rfl (w11y (hv.now hs) g1 g2 hn hok) rfl ?_; rintro _ hX ⟨ida, ua, Ga, ka, rfl, hVa, t⟩; replace hs := hs.call t; try simp only [cell_back, attr_back, List.set_cons_zero, List.set_cons_succ, List.eraseIdx_cons_succ, List.eraseIdx_zero, List.tail_cons, List.nil_append, List.cons_append] at hs; replace hs := hs.freeze 1 rfl; (try simp only [List.eraseIdx_cons_succ, List.eraseIdx_cons_zero, List.eraseIdx_zero, List.tail_cons] at hs); replace hVa := hVa.mono (InP.add (Now h) ka); refine W_norm rfl ?_)
          | (refine W_callsN 11 rfl (w11y ((hv.mono (Ro.le_add _ _)).now hs) g1 g2 hn hok) rfl ?_; rintro _ hX ⟨idb, ub, Gb, kb, rfl, hVb, t⟩; replace hs := hs.call t; try simp only [cell_back, attr_back, List.set_cons_zero, List.set_cons_succ, List.eraseIdx_cons_succ, List.eraseIdx_zero, List.tail_cons, List.nil_append, List.cons_append] at hs; replace hs := hs.freeze 1 rfl; (try simp only [List.eraseIdx_cons_succ, List.eraseIdx_cons_zero, List.eraseIdx_zero, List.tail_cons] at hs); replace hVb := hVb.mono (InP.add ((Now h).add ka) kb); replace hVa := hVa.more (k := kb); refine W_norm rfl ?_)
          | (refine W_callsN 16 rfl (w16 (v := newV (G.map lnOf) n) (id := ida) (hs.front 1 rfl) hVa ok0) rfl ?_; rintro _ hX ⟨rfl, hs⟩; (try simp only [List.eraseIdx_cons_succ, List.eraseIdx_cons_zero, List.eraseIdx_zero, List.tail_cons] at hs); refine W_norm rfl ?_)
          | (refine W_callsN 12 rfl (w12 (v := newV (G.map lnOf) n) (id := ida) (x := ax) (y := ay) hs hVa ok0 h1 h2) rfl ?_; rintro _ hX ⟨rfl, hs⟩; (try simp only [List.eraseIdx_cons_succ, List.eraseIdx_cons_zero, List.eraseIdx_zero, List.tail_cons] at hs); replace hVa := hVa.toV ax ay; have oka1 := toV_ok ok0 ax ay; refine W_norm rfl ?_)
          | (refine W_callsN 15 rfl (w15 (v := toV (newV (G.map lnOf) n) ax ay) (id := ida) hs hVa.ln oka1.l.len) rfl ?_; rintro _ hX ⟨rfl, ma, ca, hs⟩; replace hs := hs.freeze 0 rfl; (try simp only [List.eraseIdx_cons_succ, List.eraseIdx_cons_zero, List.eraseIdx_zero, List.tail_cons] at hs); replace hVa := hVa.mark (idm := ma) (c := ca); replace hVb := hVb.more (k := [(ma, .cells ca .own [.int .i64 (toV (newV (G.map lnOf) n) ax ay).x, .int .i64 (toV (newV (G.map lnOf) n) ax ay).y])]); have oka2 := markV_ok oka1; refine W_norm rfl ?_)
          | (refine W_callsN 16 rfl (w16 (v := markV (toV (newV (G.map lnOf) n) ax ay)) (id := ida) hs hVa oka2) rfl ?_; rintro _ hX ⟨rfl, hs⟩; (try simp only [List.eraseIdx_cons_succ, List.eraseIdx_cons_zero, List.eraseIdx_zero, List.tail_cons] at hs); refine W_norm rfl ?_)
          | (refine W_callsN 12 rfl (w12 (v := markV (toV (newV (G.map lnOf) n) ax ay)) (id := ida) (x := bx) (y := by') hs hVa oka2 h3 h4) rfl ?_; rintro _ hX ⟨rfl, hs⟩; (try simp only [List.eraseIdx_cons_succ, List.eraseIdx_cons_zero, List.eraseIdx_zero, List.tail_cons] at hs); replace hVa := hVa.toV bx by'; have oka3 := toV_ok oka2 bx by'; refine W_norm rfl ?_)
          | (refine W_callsN 12 rfl (w12 (v := newV (G.map lnOf) n) (id := idb) (x := bx) (y := by') (hs.front 1 rfl) hVb ok0 h3 h4) rfl ?_; rintro _ hX ⟨rfl, hs⟩; (try simp only [List.eraseIdx_cons_succ, List.eraseIdx_cons_zero, List.eraseIdx_zero, List.tail_cons] at hs); replace hVb := hVb.toV bx by'; have okb1 := toV_ok ok0 bx by'; refine W_norm rfl ?_)
          | (refine W_callsN 15 rfl (w15 (v := toV (newV (G.map lnOf) n) bx by') (id := idb) hs hVb.ln okb1.l.len) rfl ?_; rintro _ hX ⟨rfl, mb, cb, hs⟩; replace hs := hs.freeze 0 rfl; (try simp only [List.eraseIdx_cons_succ, List.eraseIdx_cons_zero, List.eraseIdx_zero, List.tail_cons] at hs); replace hVb := hVb.mark (idm := mb) (c := cb); replace hVa := hVa.more (k := [(mb, .cells cb .own [.int .i64 (toV (newV (G.map lnOf) n) bx by').x, .int .i64 (toV (newV (G.map lnOf) n) bx by').y])]); have okb2 := markV_ok okb1; refine W_norm rfl ?_)
          | (refine W_callsN 12 rfl (w12 (v := markV (toV (newV (G.map lnOf) n) bx by')) (id := idb) (x := ax) (y := ay) hs hVb okb2 h1 h2) rfl ?_; rintro _ hX ⟨rfl, hs⟩; (try simp only [List.eraseIdx_cons_succ, List.eraseIdx_cons_zero, List.eraseIdx_zero, List.tail_cons] at hs); replace hVb := hVb.toV ax ay; have okb3 := toV_ok okb2 ax ay; refine W_norm rfl ?_)
        )
        | (refine K_pick ?_; first
          | refine W_pick_f rfl rfl (W_norm rfl ?_)
        )
      )
      | (refine K_code ?_; first
        | refine W_seq ?_
        | refine W_ops ?_
        | refine W_cond_f rfl ?_
        | refine W_skip ?_
        | refine W_block ?_
      )
      | refine seqK_n ?_)
    obtain ⟨T, hT⟩ : ∃ T, T = textV (markV (toV (newV (G.map lnOf) n) ax ay)) := ⟨_, rfl⟩
    have hT1 : T = [] ∨ ∃ r, T = utf8 r := by
      rw [hT]
      exact sel_one _ _
    rw [← hT] at hs ⊢
    obtain ⟨RR, hs, hVa, hVb⟩ : ∃ RR, Sep RR [[(it, .iter T 0)], vwO idb ub (.ptr mb 0) (toV (markV (toV (newV (G.map lnOf) n) bx by')) ax ay), vwO ida ua (.ptr ma 0) (toV (markV (toV (newV (G.map lnOf) n) ax ay)) bx by')] _ ∧ VwR RR ua (.ptr ma 0) (toV (markV (toV (newV (G.map lnOf) n) ax ay)) bx by') Ga ∧ VwR RR ub (.ptr mb 0) (toV (markV (toV (newV (G.map lnOf) n) bx by')) ax ay) Gb := ⟨_, hs, hVa, hVb⟩
    refine W_loopB [18, 74, 75, 76, 77] [0, 1, 2, 3, 4, 5, 6, 7, 8, 9, 10, 11, 12, 13, 14, 15, 16, 17, 18, 19, 20, 21, 22, 23, 24, 25, 26, 27, 28, 29, 30, 31, 32, 33, 34, 35, 36, 37, 38, 39, 40, 41, 42, 43, 44, 45, 46, 47, 48, 49, 50, 51, 52, 53, 54, 55, 56, 57, 58, 59, 60, 61, 62, 63, 64, 65, 66, 67, 68, 69, 70, 71, 72, 73, 74, 75, 76, 77, 78, 79, 80, 81, 82, 83, 84, 85, 86, 87, 88, 89, 90, 91, 92, 93, 94, 95, 96, 97] (fun n' sl h' => ∃ (k pos : Nat), sl = [(18, .sc (.int .i64 (k : Int)))] ∧ n' = 1 - k ∧ ((k = 0 ∧ pos = 0) ∨ (k = 1 ∧ pos = T.length)) ∧ Sep RR [[(it, .iter T pos)], vwO idb ub (.ptr mb 0) (toV (markV (toV (newV (G.map lnOf) n) bx by')) ax ay), vwO ida ua (.ptr ma 0) (toV (markV (toV (newV (G.map lnOf) n) ax ay)) bx by')] h') ?_ ?_
    · refine ⟨_, _, ⟨0, 0, rfl, rfl, .inl ⟨rfl, rfl⟩, hs⟩, EnvB.of rfl⟩
    clear hs
    rintro _ _ us _ hX ⟨k, pos, rfl, rfl, hkp, hs⟩ he
    refine W_spell he rfl ?_
    clear he
    unfold m4_l18
    by_cases hlt : pos < T.length
    · obtain ⟨rfl, rfl⟩ : k = 0 ∧ pos = 0 := by
        rcases hkp with h | ⟨_, h⟩
        · exact h
        · omega
      repeat' (first
        | (refine K_ops ?_; first
          | refine W_fastB rfl ?_
          | refine W_nil ?_
          | (refine W_nextS hs 0 rfl rfl hlt ?_; clear hs; intro cc _ hs; (try simp only [List.set_cons_zero, List.set_cons_succ] at hs); refine W_norm rfl ?_)
          | (refine K_bin ?_; first
            | (refine W_add rfl rfl (IntWalk.i64_in _ (by first | omega | (simp only [List.length_set, List.length_append, List.length_take, List.length_drop, List.length_replicate, List.length_cons, List.length_nil, decs_length, List.length_map]; omega))) ?_; refine W_norm rfl ?_)
          )
        )
        | (refine K_code ?_; first
          | refine W_seq ?_
          | refine W_ops ?_
          | refine W_cond_t rfl ?_
          | refine W_skip ?_
          | refine W_block ?_
        )
        | refine seqK_n ?_
        | refine blockK_n ?_
        | refine invK_n ?_)
      have hd : 0 + (Utf8.decode ⟨T.toArray⟩ 0).2 = T.length := by
        rcases hT1 with rfl | ⟨r, rfl⟩
        · simp at hlt
        · rw [Nat.zero_add, dec_utf8]
      rw [hd] at hs
      refine ⟨_, ?_, _, ⟨1, T.length, rfl, rfl, .inr ⟨rfl, rfl⟩, hs⟩, EnvB.of rfl⟩
      omega
    · have hk1 : k ≤ 1 := by omega
      have oka4 := clearV_ok oka3
      have htx : textV (toV (markV (toV (newV (G.map lnOf) n) ax ay)) bx by') = textV (toV (markV (toV (newV (G.map lnOf) n) bx by')) ax ay) := selT_comm _ _ _
      repeat' (first
        | (refine K_ops ?_; first
          | refine W_fastB rfl ?_
          | refine W_nil ?_
          | (refine W_nextS0 hs 0 rfl rfl hlt ?_; refine W_norm rfl ?_)
          | (refine K_guard ?_; first
            | refine W_guard_on rfl ?_
            | refine W_guard_off rfl rfl (W_norm rfl ?_)
            | (refine W_guardT rfl (fun hc => ?_) (fun hc => ?_) <;> (try rw [hc]) <;> (try simp only [decide_eq_true_eq, decide_eq_false_iff_not, beq_iff_eq, beq_eq_false_iff_ne, bne_iff_ne, bne_eq_false_iff_eq, Bool.not_eq_true', Bool.not_eq_false', Int.not_lt, Int.not_le, ne_eq, reduceCtorEq, not_true_eq_false, not_false_eq_true, Decidable.not_not] at hc) <;> (try (exfalso; omega)) <;> (try refine W_norm rfl ?_))
          )
          | (refine K_call ?_; first
            | (refine W_callsN 16 rfl (w16 (v := toV (markV (toV (newV (G.map lnOf) n) ax ay)) bx by') (id := ida) ((hs.drop 0).front 1 rfl) hVa oka3) rfl ?_; rintro _ hX ⟨rfl, hs⟩; (try simp only [List.eraseIdx_cons_succ, List.eraseIdx_cons_zero, List.eraseIdx_zero, List.tail_cons] at hs); refine W_norm rfl ?_)
            | (refine W_callsN 17 rfl (w17 (v := toV (markV (toV (newV (G.map lnOf) n) ax ay)) bx by') (id := ida) hs) rfl ?_; rintro _ hX ⟨rfl, hs⟩; (try simp only [List.eraseIdx_cons_succ, List.eraseIdx_cons_zero, List.eraseIdx_zero, List.tail_cons] at hs); refine W_norm rfl ?_)
            | (refine W_callsN 16 rfl (w16 (v := toV (markV (toV (newV (G.map lnOf) n) bx by')) ax ay) (id := idb) (hs.front 1 rfl) hVb okb3) rfl ?_; rintro _ hX ⟨rfl, hs⟩; (try simp only [List.eraseIdx_cons_succ, List.eraseIdx_cons_zero, List.eraseIdx_zero, List.tail_cons] at hs); refine W_norm rfl ?_)
            | (refine W_callsN 16 rfl (w16 (v := clearV (toV (markV (toV (newV (G.map lnOf) n) ax ay)) bx by')) (id := ida) (hs.front 1 rfl) hVa.clear oka4) rfl ?_; rintro _ hX ⟨rfl, hs⟩; (try simp only [List.eraseIdx_cons_succ, List.eraseIdx_cons_zero, List.eraseIdx_zero, List.tail_cons] at hs); refine W_norm rfl ?_)
            | (refine W_callsN 10 rfl (w10g _) rfl ?_; rintro _ hX ⟨rfl, rfl⟩; refine W_norm rfl ?_)
          )
          | (refine K_pick ?_; first
            | refine W_pick_t rfl rfl (W_norm rfl ?_)
            | refine W_pick_f rfl rfl (W_norm rfl ?_)
          )
        )
        | (refine K_code ?_; first
          | refine W_seq ?_
          | refine W_ops ?_
          | refine W_cond_f rfl ?_
          | refine W_ret ?_
          | refine W_exit ?_
        )
        | refine seqK_n ?_
        | refine seqK_x ?_
        | refine blockK_e ?_
        | refine invK_x ?_
        | (refine fnK_r rfl ?_; try dsimp only [gd_z, gd_s]))
      all_goals first | exact ⟨_, rfl, rfl⟩ | exact absurd htx hc
  · repeat' (first
      | (refine K_ops ?_; first
        | refine W_fastB rfl ?_
        | refine W_nil ?_
        | (refine K_guard ?_; first
          | refine W_guard_on rfl ?_
          | refine W_guard_off rfl rfl (W_norm rfl ?_)
        )
        | (refine K_call ?_; first
          | (refine W_callsN 11 rfl (w11n (hv.now hs) g1 g2 hn hok) rfl ?_; rintro _ hX ⟨rfl, t⟩; replace hs := hs.call t; try simp only [cell_back, attr_back, List.set_cons_zero, List.set_cons_succ, List.eraseIdx_cons_succ, List.eraseIdx_zero, List.tail_cons, List.nil_append, List.cons_append] at hs; refine W_norm rfl ?_)
          | (refine W_callsN 10 rfl (w10g _) rfl ?_; rintro _ hX ⟨rfl, rfl⟩; refine W_norm rfl ?_)
        )
        | (refine K_pick ?_; first
          | refine W_pick_t rfl rfl (W_norm rfl ?_)
        )
      )
      | (refine K_code ?_; first
        | refine W_seq ?_
        | refine W_ops ?_
        | refine W_cond_t rfl ?_
        | refine W_ret ?_
      )
      | refine seqK_n ?_
      | refine seqK_r ?_
      | (refine fnK_r rfl ?_; try dsimp only [gd_z, gd_s]))
    exact ⟨_, rfl, rfl⟩

theorem walk_copyBoth (H : Heap) (avs : List AV) (hwf : H.l.length = H.n) (hs : Sub (HL Tryd.prog.globals.size jxLs) H) (ho : OpenA H [(false, [.slice 27 3 [.slice 71 7 [.int .i32, .int .u8, .int .u16, .int .u8, .int .u32, .int .u8, .int .u32], .bool, .bool]]), (false, [.int .i64]), (false, [.int .i64]), (false, [.int .i64]), (false, [.int .i64]), (false, [.int .i64])] avs) : W DD (.call 4 avs H) (fun _ vs _ => vs = [.sc (.bool true)]) := by
  simp only [OpenA] at ho
  obtain ⟨_, _, _, hk, rfl, o1, _, _, _, hk2, rfl, o2, _, _, _, hk3, rfl, o3, _, _, _, hk4, rfl, o4, _, _, _, hk5, rfl, o5, _, _, _, hk6, rfl, o6, rfl⟩ := ho
  cases hk; cases hk2; cases hk3; cases hk4; cases hk5; cases hk6
  simp only [OpenS] at o2 o3 o4 o5 o6
  obtain ⟨n, rfl, e1⟩ := o2
  obtain ⟨ax, rfl, e2⟩ := o3
  obtain ⟨ay, rfl, e3⟩ := o4
  obtain ⟨bx, rfl, e4⟩ := o5
  obtain ⟨by', rfl, e5⟩ := o6
  obtain ⟨G, hG, h1, h2, h3⟩ := openLines o1
  exact (w4 hG h1 h2 h3 e1 e2 e3 e4 e5).mono fun _ _ _ ⟨v, hv, h3⟩ => by rw [hv, h3]
end Go.Proofs.YtbkhjpclnfljbaaDoor
