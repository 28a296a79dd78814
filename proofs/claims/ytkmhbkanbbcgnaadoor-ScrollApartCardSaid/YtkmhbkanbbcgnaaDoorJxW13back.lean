/- The law ScrollBack: the plain machine answers true. CALLV -/
import Derived.Test.YtkmhbkanbbcgnaaDoorJxW13scroll3
import Derived.Test.YtkmhbkanbbcgnaaDoorJxE13
set_option linter.unusedSimpArgs false
set_option linter.unusedVariables false
set_option maxHeartbeats 4000000
set_option maxRecDepth 100000
namespace Go.Proofs.YtkmhbkanbbcgnaaDoor
open Go Go.Jx

structure Mv where
  y : Int
  t : Int
  b : Int
  n : Int
  w : Int
  a : Attr
def mv0 : Mv := ⟨0, 0, 0, 0, 0, attr0⟩
def mvE : El Mv := ⟨10, fun c => [.int .i64 c.y, .int .i64 c.t, .int .i64 c.b, .int .i64 c.n, .int .i64 c.w, .int .u16 c.a.f, .int .u8 c.a.fk, .int .u32 c.a.fn, .int .u8 c.a.bk, .int .u32 c.a.bn], fun l => match l with | [.int _ y, .int _ t, .int _ b, .int _ n, .int _ w, .int _ f, .int _ fk, .int _ fn, .int _ bk, .int _ bn] => ⟨y, t, b, n, w, ⟨f, fk, fn, bk, bn⟩⟩ | _ => mv0, mv0, fun _ => rfl, by decide, fun _ => rfl⟩
theorem w7 (h : Heap) : Wc DD 7 [] h fun v h' => v = .sc (.bool true) ∧ h' = h := W_known rfl

def greatB (G : List (SV × List Cell)) : Bool := decide (60 < G.length) || G.any fun g => decide (60 < g.2.length)
theorem w6 {v : SV} {G : List (SV × List Cell)} {h : Heap} (hv : NsR cellE (Now h) v G) (hl : G.length ≤ 9223372036854775807) : Wc DD 6 [.sc v] h fun w h' => w = bo (greatB G) ∧ h' = h := by
  have hs := Sep.entry h
  have hv1 := hv.1
  have hvl := hv.ln
  refine W_enter d6 ?_
  show W _ (.code m6_code [.sc v, undefA, undefA, undefA, undefA, undefA, undefA, undefA, undefA, undefA, undefA, undefA, undefA, undefA, undefA, undefA, undefA, undefA, undefA] _) _
  unfold m6_code
  repeat' (first
    | (refine K_ops ?_; first
      | refine W_fastB rfl ?_
      | refine W_nil ?_
      | (refine W_lenL rfl (by first | assumption | exact SlR.ln (by assumption) | exact AccS.ln (by assumption) | exact OwnS.ln (by assumption) | exact VwO.ln (by assumption) | exact OwnP.ln (by assumption) | exact Len.sl) ?_; refine W_norm rfl ?_)
    )
    | (refine K_code ?_; first
      | refine W_seq ?_
      | refine W_ops ?_
      | (refine W_cond rfl (fun hc => ?_) (fun hc => ?_) <;> (try rw [hc]) <;> (try simp only [decide_eq_true_eq, decide_eq_false_iff_not, beq_iff_eq, beq_eq_false_iff_ne, bne_iff_ne, bne_eq_false_iff_eq, Bool.not_eq_true', Bool.not_eq_false', Int.not_lt, Int.not_le, ne_eq, reduceCtorEq, not_true_eq_false, not_false_eq_true, Decidable.not_not] at hc) <;> (try (exfalso; omega)) <;> (try refine W_norm rfl ?_))
      | refine W_skip ?_
      | refine W_ret ?_
      | refine W_block ?_
    )
    | refine seqK_n ?_
    | refine seqK_r ?_
    | (refine fnK_r rfl ?_; try dsimp only [gd_z, gd_s]))
  · exact ⟨_, rfl, by unfold greatB; rw [decide_eq_true (by omega)]; rfl, rfl⟩
  refine W_loopB [2, 3, 7, 8, 9, 10, 11, 12, 13, 14, 15, 16, 17, 18] [0, 1, 2, 3, 4, 5, 6, 7, 8, 9, 10, 11, 12, 13, 14, 15, 16, 17, 18] (fun n' sl h' => ∃ (k : Nat), sl = [(3, .sc (.int .i64 (k : Int)))] ∧ n' = G.length - k ∧ k ≤ G.length ∧ h' = h ∧ (G.take k).any (fun g => decide (60 < g.2.length)) = false) ?_ ?_
  · refine ⟨_, _, ⟨0, rfl, rfl, Nat.zero_le _, rfl, rfl⟩, EnvB.of rfl⟩
  rintro _ _ us _ h2 ⟨k, rfl, rfl, hk, rfl, hw⟩ he
  refine W_spell he rfl ?_
  clear he
  unfold m6_l4
  by_cases hlt : k < G.length
  · have r1 := (hv.row hlt).ln
    have hg : G[k]? = some (G.getD k (.nils, [])) := getD_get? hlt
    have e2 := getD_map_snd G k .nils []
    repeat' (first
      | (refine K_ops ?_; first
        | refine W_fastB rfl ?_
        | refine W_nil ?_
        | (refine W_lenL rfl (by first | assumption | exact SlR.ln (by assumption) | exact AccS.ln (by assumption) | exact OwnS.ln (by assumption) | exact VwO.ln (by assumption) | exact OwnP.ln (by assumption) | exact Len.sl) ?_; refine W_norm rfl ?_)
        | (refine K_bin ?_; first
          | (refine W_add rfl rfl (IntWalk.i64_in _ (by first | omega | (simp only [List.length_set, List.length_append, List.length_take, List.length_drop, List.length_replicate, List.length_cons, List.length_nil, decs_length, List.length_map]; omega))) ?_; refine W_norm rfl ?_)
        )
        | (refine K_index ?_; first
          | (refine W_indexR rfl rfl (by assumption) rfl ⟨(by first | omega | (simp only [List.length_set, List.length_append, List.length_take, List.length_drop, List.length_replicate, List.length_cons, List.length_nil, decs_length, List.length_map]; omega)), (by first | omega | (simp only [List.length_set, List.length_append, List.length_take, List.length_drop, List.length_replicate, List.length_cons, List.length_nil, decs_length, List.length_map]; omega))⟩ ?_; intro _ _ _; refine W_norm rfl ?_)
        )
        | (refine K_load ?_; first
          | (refine W_loadR hs rfl (by assumption) rfl ?_; refine W_norm rfl ?_)
        )
      )
      | (refine K_code ?_; first
        | refine W_seq ?_
        | refine W_ops ?_
        | (refine W_cond rfl (fun hc => ?_) (fun hc => ?_) <;> (try rw [hc]) <;> (try simp only [decide_eq_true_eq, decide_eq_false_iff_not, beq_iff_eq, beq_eq_false_iff_ne, bne_iff_ne, bne_eq_false_iff_eq, Bool.not_eq_true', Bool.not_eq_false', Int.not_lt, Int.not_le, ne_eq, reduceCtorEq, not_true_eq_false, not_false_eq_true, Decidable.not_not] at hc) <;> (try (exfalso; omega)) <;> (try refine W_norm rfl ?_))
        | refine W_skip ?_
        | refine W_ret ?_
        | refine W_block ?_
      )
      | refine seqK_n ?_
      | refine seqK_r ?_
      | refine blockK_r ?_
      | refine blockK_n ?_
      | refine invK_r ?_
      | refine invK_n ?_
      | (refine fnK_r rfl ?_; try dsimp only [gd_z, gd_s]))
    · refine ⟨_, rfl, ?_, rfl⟩
      have : greatB G = true := by
        unfold greatB
        rw [Bool.or_eq_true]
        refine .inr (List.any_eq_true.2 ⟨_, List.mem_of_getElem? hg, ?_⟩)
        rw [e2] at hc
        exact decide_eq_true (by omega)
      rw [this]
    · refine ⟨_, ?_, _, ⟨k + 1, rfl, rfl, ?_, rfl, ?_⟩, EnvB.of rfl⟩
      · omega
      · omega
      · rw [List.take_add_one, hg, List.any_append, hw]
        rw [e2] at hc
        simp only [Option.toList_some, List.any_cons, List.any_nil, Bool.or_false, Bool.false_or]
        rw [decide_eq_false]; omega
  · repeat' (first
      | (refine K_ops ?_; first
        | refine W_fastB rfl ?_
        | refine W_nil ?_
        | (refine W_lenL rfl (by first | assumption | exact SlR.ln (by assumption) | exact AccS.ln (by assumption) | exact OwnS.ln (by assumption) | exact VwO.ln (by assumption) | exact OwnP.ln (by assumption) | exact Len.sl) ?_; refine W_norm rfl ?_)
      )
      | (refine K_code ?_; first
        | refine W_seq ?_
        | refine W_ops ?_
        | (refine W_cond rfl (fun hc => ?_) (fun hc => ?_) <;> (try rw [hc]) <;> (try simp only [decide_eq_true_eq, decide_eq_false_iff_not, beq_iff_eq, beq_eq_false_iff_ne, bne_iff_ne, bne_eq_false_iff_eq, Bool.not_eq_true', Bool.not_eq_false', Int.not_lt, Int.not_le, ne_eq, reduceCtorEq, not_true_eq_false, not_false_eq_true, Decidable.not_not] at hc) <;> (try (exfalso; omega)) <;> (try refine W_norm rfl ?_))
        | refine W_ret ?_
        | refine W_exit ?_
      )
      | refine seqK_n ?_
      | refine seqK_x ?_
      | refine blockK_e ?_
      | refine invK_x ?_
      | (refine fnK_r rfl ?_; try dsimp only [gd_z, gd_s]))
    refine ⟨_, rfl, ?_, rfl⟩
    rw [List.take_of_length_le (by omega)] at hw
    unfold greatB
    rw [hw, decide_eq_false (by omega)]; rfl
theorem great_false {G : List (SV × List Cell)} (h : greatB G = false) : G.length ≤ 60 ∧ ∀ g ∈ G, g.2.length ≤ 60 := by
  unfold greatB at h
  rw [Bool.or_eq_false_iff] at h
  refine ⟨by have := of_decide_eq_false h.1; omega, fun g hg => ?_⟩
  have := List.any_eq_false.1 h.2 g hg
  simp at this; omega

theorem bound {H : List (Hd Cell)} {X : List (List Cell)} {n : Nat} (h : H.map Hd.L = X) (k : ∀ x ∈ X, x.length ≤ n) : ∀ g ∈ pairs H, g.2.length ≤ n := by
  intro g hg
  obtain ⟨r, hr, rfl⟩ := List.mem_map.1 hg
  exact k _ (by rw [← h]; exact List.mem_map_of_mem hr)
theorem len_of {H : List (Hd Cell)} {X : List (List Cell)} (h : H.map Hd.L = X) : H.length = X.length := by rw [← h, List.length_map]
theorem downOut_length {α : Type} {V F : List α} {t k q : Nat} (h : t + k + q ≤ V.length) (hF : F.length = k) : (downOut V F t k q).length = V.length := by
  unfold downOut; simp only [List.length_append, List.length_take, List.length_drop]; omega
theorem upOut_length {α : Type} {V F : List α} {t k q : Nat} (h : t + k + q ≤ V.length) (hF : F.length = k) : (upOut V F t k q).length = V.length := by
  unfold upOut; simp only [List.length_append, List.length_take, List.length_drop]; omega
theorem downOut_mem {α : Type} {V F : List α} {t k q : Nat} {x : α} (h : x ∈ downOut V F t k q) : x ∈ V ∨ x ∈ F := by
  unfold downOut at h
  simp only [List.mem_append] at h
  rcases h with ((h | h) | h) | h
  · exact .inl (List.mem_of_mem_take h)
  · exact .inr h
  · exact .inl (List.mem_of_mem_drop (List.mem_of_mem_take h))
  · exact .inl (List.mem_of_mem_drop h)
theorem upOut_mem {α : Type} {V F : List α} {t k q : Nat} {x : α} (h : x ∈ upOut V F t k q) : x ∈ V ∨ x ∈ F := by
  unfold upOut at h
  simp only [List.mem_append] at h
  rcases h with ((h | h) | h) | h
  · exact .inl (List.mem_of_mem_take h)
  · exact .inl (List.mem_of_mem_drop (List.mem_of_mem_take h))
  · exact .inr h
  · exact .inl (List.mem_of_mem_drop h)
theorem dn_take {α : Type} {V F : List α} {t k q : Nat} (h : t + k + q ≤ V.length) : (downOut V F t k q).take t = V.take t := by
  unfold downOut; rw [List.append_assoc, List.append_assoc]; exact List.take_left' (by rw [List.length_take]; omega)
theorem dn_gone {α : Type} {V F : List α} {t k q : Nat} (h : t + k + q ≤ V.length) (hF : F.length = k) : ((downOut V F t k q).drop t).take k = F := by
  unfold downOut; rw [List.append_assoc, List.append_assoc, List.drop_left' (by rw [List.length_take]; omega)]; exact List.take_left' hF
theorem dn_mid {α : Type} {V F : List α} {t k q : Nat} (h : t + k + q ≤ V.length) (hF : F.length = k) : (downOut V F t k q).drop (t + k) = (V.drop t).take q ++ V.drop (t + k + q) := by
  unfold downOut; rw [List.append_assoc]; exact List.drop_left' (by rw [List.length_append, List.length_take]; omega)
theorem dn_end {α : Type} {V F : List α} {t k q : Nat} (h : t + k + q ≤ V.length) (hF : F.length = k) : (downOut V F t k q).drop (t + k + q) = V.drop (t + k + q) := by
  unfold downOut; exact List.drop_left' (by simp only [List.length_append, List.length_take, List.length_drop]; omega)
theorem dn_q {α : Type} {V F : List α} {t k q : Nat} (h : t + k + q ≤ V.length) (hF : F.length = k) : ((downOut V F t k q).drop (t + k)).take q = (V.drop t).take q := by
  rw [dn_mid h hF]; exact List.take_left' (by rw [List.length_take, List.length_drop]; omega)
theorem bk_eq {α : Type} {V F : List α} {t k q : Nat} (h : t + k + q ≤ V.length) (hF : F.length = k) : upOut (downOut V F t k q) F t k q = V.take (t + q) ++ F ++ V.drop (t + k + q) := by
  unfold upOut
  rw [dn_take h, dn_q h hF, dn_end h hF, List.take_add]

/-- The second half: what the law compares. -/
theorem w3b {v ud gd ub gb uu gu : SV} {G : List (SV × List Cell)} {Dh Dg Bh Bg Uh Ug : List (Hd Cell)} {V F : List (List Cell)} {T B K q : Nat} {e : List AV} {h2 : Heap} (m : Mv) {bx : Nat}
    (q1 : PtR (Now h2) bx 0 (mvE.enc m)) (nD : NsR cellE (Now h2) ud (pairs Dh)) (nDg : NsR cellE (Now h2) gd (pairs Dg)) (nB : NsR cellE (Now h2) ub (pairs Bh)) (nBg : NsR cellE (Now h2) gb (pairs Bg)) (nU : NsR cellE (Now h2) uu (pairs Uh)) (nUg : NsR cellE (Now h2) gu (pairs Ug)) (nV : NsR cellE (Now h2) v G)
    (hV : V = G.map Prod.snd) (g1 : G.length ≤ 60) (g2 : ∀ g ∈ G, g.2.length ≤ 60) (hT : m.t = (T : Int)) (hB : m.b = (B : Int)) (h3 : (B : Int) < G.length) (hq : B + 1 = T + K + q) (hK1 : 1 ≤ K)
    (hVl : V.length = G.length) (hVm : ∀ x ∈ V, x.length ≤ 60) (hFl : F.length = K) (hFm : ∀ x ∈ F, x.length ≤ 60) (hFe : F = List.replicate K (freshL m.w m.a)) (hle : T + K + q ≤ V.length)
    (hDL : Dh.map Hd.L = downOut V F T K q) (hDgL : Dg.map Hd.L = (V.drop (T + q)).take K) (hBL : Bh.map Hd.L = upOut (downOut V F T K q) F T K q) (hBgL : Bg.map Hd.L = ((downOut V F T K q).drop T).take K) (hUL : Uh.map Hd.L = upOut V F T K q) (hUgL : Ug.map Hd.L = (V.drop T).take K)
    (hD1 : Dh.length = G.length) (hB1 : Bh.length = G.length) (hU1 : Uh.length = G.length) (hDg1 : Dg.length = K) (hBg1 : Bg.length = K) (hUg1 : Ug.length = K)
    (he : EnvIs 260 [(0, .sc v), (3, .sc (.ptr bx 0)), (5, .sc (.int .i64 (K : Int))), (6, .sc ud), (7, .sc gd), (8, .sc ub), (9, .sc gb), (10, .sc uu), (11, .sc gu), (12, .sc (.func 10 [])), (13, .sc (.int .i64 (m.b + 1)))] e) :
    W DD (.code (.seq (.seq (.draw m3_r11) (.cond (.t 189) (.seq (.ops m3_r12) .ret) .skip)) (.seq (.draw m3_r13) .ret)) e h2) (fnK m3 fun _ vs h' => ∃ w, vs = [w] ∧ w = .sc (.bool true)) := by
  have hT2 : Hid (m.t.toNat = T) := by unfold Hid; omega
  have bD := bound hDL (fun x hx => (downOut_mem hx).elim (hVm x) (hFm x))
  have bB := bound hBL (fun x hx => (upOut_mem hx).elim (fun hx => (downOut_mem hx).elim (hVm x) (hFm x)) (hFm x))
  have bU := bound hUL (fun x hx => (upOut_mem hx).elim (hVm x) (hFm x))
  have bDg := bound hDgL (fun x hx => hVm x (List.mem_of_mem_drop (List.mem_of_mem_take hx)))
  have bUg := bound hUgL (fun x hx => hVm x (List.mem_of_mem_drop (List.mem_of_mem_take hx)))
  have bBg := bound hBgL (fun x hx => by rw [dn_gone hle hFl] at hx; exact hFm x hx)
  have bF := g2
  have sD := nD.1
  have sB := nB.1
  have sU := nU.1
  have sV := nV.1
  have pD : (pairs Dh).length = G.length := by rw [pairs_length, hD1]
  have pB : (pairs Bh).length = G.length := by rw [pairs_length, hB1]
  have pU : (pairs Uh).length = G.length := by rw [pairs_length, hU1]
  have pDg : (pairs Dg).length = K := by rw [pairs_length, hDg1]
  have pBg : (pairs Bg).length = K := by rw [pairs_length, hBg1]
  have pUg : (pairs Ug).length = K := by rw [pairs_length, hUg1]
  have hs := Sep.entry h2
  have n1 : Hid ((m.b + 1 - (K : Int)).toNat = T + q) := by unfold Hid; omega
  have n2 : Hid ((m.b + 1).toNat = T + K + q) := by unfold Hid; omega
  have n3 : Hid ((m.t + (K : Int)).toNat = T + K) := by unfold Hid; omega
  have e1 : (upOut (downOut V F T K q) F T K q).take (T + q) = V.take (T + q) := by
    rw [bk_eq hle hFl, List.append_assoc]; exact List.take_left' (by rw [List.length_take]; omega)
  have e2 : (upOut (downOut V F T K q) F T K q).drop (T + K + q) = V.drop (T + K + q) := by
    rw [bk_eq hle hFl]; exact List.drop_left' (by rw [List.length_append, List.length_take]; omega)
  have e3 : (V.drop (T + q)).take K = (V.take (T + K + q)).drop (T + q) := by rw [List.drop_take]; congr 1; omega
  have e4 : (V.drop T).take K = (V.take (T + K)).drop T := by rw [List.drop_take]; congr 1; omega
  have e5 : ((downOut V F T K q).take (T + K + q)).drop (T + K) = (V.take (T + q)).drop T := by
    rw [List.drop_take, List.drop_take, show T + K + q - (T + K) = q by omega, show T + q - T = q by omega, dn_q hle hFl]
  have e6 : ((upOut V F T K q).take (T + q)).drop T = (V.take (T + K + q)).drop (T + K) := by
    rw [List.drop_take, List.drop_take, show T + K + q - (T + K) = q by omega, show T + q - T = q by omega]
    unfold upOut
    rw [List.append_assoc, List.append_assoc, List.drop_left' (by rw [List.length_take]; omega)]
    exact List.take_left' (by rw [List.length_take, List.length_drop]; omega)
  have e7 : (upOut V F T K q).take T = V.take T := by
    unfold upOut; rw [List.append_assoc, List.append_assoc]; exact List.take_left' (by rw [List.length_take]; omega)
  have e8 : (downOut V F T K q).drop (T + K + q) = V.drop (T + K + q) := dn_end hle hFl
  obtain ⟨us, rfl⟩ := he.list
  show W DD (.code _ [.sc v, us 1, us 2, .sc (.ptr bx 0), us 4, .sc (.int .i64 (K : Int)), .sc ud, .sc gd, .sc ub, .sc gb, .sc uu, .sc gu, .sc (.func 10 []), .sc (.int .i64 (m.b + 1)), us 14, us 15, us 16, us 17, us 18, us 19, us 20, us 21, us 22, us 23, us 24, us 25, us 26, us 27, us 28, us 29, us 30, us 31, us 32, us 33, us 34, us 35, us 36, us 37, us 38, us 39, us 40, us 41, us 42, us 43, us 44, us 45, us 46, us 47, us 48, us 49, us 50, us 51, us 52, us 53, us 54, us 55, us 56, us 57, us 58, us 59, us 60, us 61, us 62, us 63, us 64, us 65, us 66, us 67, us 68, us 69, us 70, us 71, us 72, us 73, us 74, us 75, us 76, us 77, us 78, us 79, us 80, us 81, us 82, us 83, us 84, us 85, us 86, us 87, us 88, us 89, us 90, us 91, us 92, us 93, us 94, us 95, us 96, us 97, us 98, us 99, us 100, us 101, us 102, us 103, us 104, us 105, us 106, us 107, us 108, us 109, us 110, us 111, us 112, us 113, us 114, us 115, us 116, us 117, us 118, us 119, us 120, us 121, us 122, us 123, us 124, us 125, us 126, us 127, us 128, us 129, us 130, us 131, us 132, us 133, us 134, us 135, us 136, us 137, us 138, us 139, us 140, us 141, us 142, us 143, us 144, us 145, us 146, us 147, us 148, us 149, us 150, us 151, us 152, us 153, us 154, us 155, us 156, us 157, us 158, us 159, us 160, us 161, us 162, us 163, us 164, us 165, us 166, us 167, us 168, us 169, us 170, us 171, us 172, us 173, us 174, us 175, us 176, us 177, us 178, us 179, us 180, us 181, us 182, us 183, us 184, us 185, us 186, us 187, us 188, us 189, us 190, us 191, us 192, us 193, us 194, us 195, us 196, us 197, us 198, us 199, us 200, us 201, us 202, us 203, us 204, us 205, us 206, us 207, us 208, us 209, us 210, us 211, us 212, us 213, us 214, us 215, us 216, us 217, us 218, us 219, us 220, us 221, us 222, us 223, us 224, us 225, us 226, us 227, us 228, us 229, us 230, us 231, us 232, us 233, us 234, us 235, us 236, us 237, us 238, us 239, us 240, us 241, us 242, us 243, us 244, us 245, us 246, us 247, us 248, us 249, us 250, us 251, us 252, us 253, us 254, us 255, us 256, us 257, us 258, us 259] _) _
  repeat' (first
    | (refine K_ops ?_; first
      | refine W_fastB rfl ?_
      | refine W_nil ?_
      | (refine K_guard ?_; first
        | refine W_guard_on rfl ?_
      )
      | (refine K_call ?_; first
        | (refine W_callsN 7 rfl (w7 _) rfl ?_; rintro _ _ ⟨rfl, rfl⟩; refine W_norm rfl ?_)
        | (refine W_callsN 11 rfl (w11 m.a) rfl ?_; rintro _ h3 ⟨uf, cf, Fh, rfl, hFr, hfL, t'⟩; replace hs := hs.call t'; have e9 : ((downOut V F T K q).drop T).take K = (if (K : Int) ≤ 400 then List.replicate (K : Int).toNat (freshL m.w m.a) else []) := (by rw [dn_gone hle hFl, if_pos (by omega), hFe]; rfl); have pF : (pairs Fh).length = K := (by rw [pairs_length, len_of hfL, if_pos (by omega), List.length_replicate]; rfl); have bF := bound hfL (fun x hx => (by rw [← e9, dn_gone hle hFl] at hx; exact hFm x hx : x.length ≤ 60)); try simp only [List.cons_append, List.nil_append] at hs; refine W_norm rfl ?_)
      )
      | (refine W_callvN 10 rfl rfl (w10 (by first | assumption | exact NsR.now hs (by assumption) | exact (NsR.take (by assumption) (by assumption)).now hs | exact (NsR.drop (by assumption) (by assumption)).now hs | exact (NsR.cut (by assumption) (by assumption)).now hs | exact NsO.now (by assumption) hs (by simp) (by simp)) (by first | assumption | exact NsR.now hs (by assumption) | exact (NsR.take (by assumption) (by assumption)).now hs | exact (NsR.drop (by assumption) (by assumption)).now hs | exact (NsR.cut (by assumption) (by assumption)).now hs | exact NsO.now (by assumption) hs (by simp) (by simp)) (by first | omega | (simp only [List.length_take, List.length_drop, pairs_length]; omega)) (by first | omega | (simp only [List.length_take, List.length_drop, pairs_length]; omega)) (by intro g hg; first | exact Nat.le_trans (bD g (by first | exact hg | exact List.mem_of_mem_take hg | exact List.mem_of_mem_drop hg | exact List.mem_of_mem_take (List.mem_of_mem_drop hg))) (by omega) | exact Nat.le_trans (bDg g (by first | exact hg | exact List.mem_of_mem_take hg | exact List.mem_of_mem_drop hg | exact List.mem_of_mem_take (List.mem_of_mem_drop hg))) (by omega) | exact Nat.le_trans (bB g (by first | exact hg | exact List.mem_of_mem_take hg | exact List.mem_of_mem_drop hg | exact List.mem_of_mem_take (List.mem_of_mem_drop hg))) (by omega) | exact Nat.le_trans (bBg g (by first | exact hg | exact List.mem_of_mem_take hg | exact List.mem_of_mem_drop hg | exact List.mem_of_mem_take (List.mem_of_mem_drop hg))) (by omega) | exact Nat.le_trans (bU g (by first | exact hg | exact List.mem_of_mem_take hg | exact List.mem_of_mem_drop hg | exact List.mem_of_mem_take (List.mem_of_mem_drop hg))) (by omega) | exact Nat.le_trans (bUg g (by first | exact hg | exact List.mem_of_mem_take hg | exact List.mem_of_mem_drop hg | exact List.mem_of_mem_take (List.mem_of_mem_drop hg))) (by omega) | exact Nat.le_trans (g2 g (by first | exact hg | exact List.mem_of_mem_take hg | exact List.mem_of_mem_drop hg | exact List.mem_of_mem_take (List.mem_of_mem_drop hg))) (by omega) | exact Nat.le_trans (bF g (by first | exact hg | exact List.mem_of_mem_take hg | exact List.mem_of_mem_drop hg | exact List.mem_of_mem_take (List.mem_of_mem_drop hg))) (by omega)) (by intro g hg; first | exact Nat.le_trans (bD g (by first | exact hg | exact List.mem_of_mem_take hg | exact List.mem_of_mem_drop hg | exact List.mem_of_mem_take (List.mem_of_mem_drop hg))) (by omega) | exact Nat.le_trans (bDg g (by first | exact hg | exact List.mem_of_mem_take hg | exact List.mem_of_mem_drop hg | exact List.mem_of_mem_take (List.mem_of_mem_drop hg))) (by omega) | exact Nat.le_trans (bB g (by first | exact hg | exact List.mem_of_mem_take hg | exact List.mem_of_mem_drop hg | exact List.mem_of_mem_take (List.mem_of_mem_drop hg))) (by omega) | exact Nat.le_trans (bBg g (by first | exact hg | exact List.mem_of_mem_take hg | exact List.mem_of_mem_drop hg | exact List.mem_of_mem_take (List.mem_of_mem_drop hg))) (by omega) | exact Nat.le_trans (bU g (by first | exact hg | exact List.mem_of_mem_take hg | exact List.mem_of_mem_drop hg | exact List.mem_of_mem_take (List.mem_of_mem_drop hg))) (by omega) | exact Nat.le_trans (bUg g (by first | exact hg | exact List.mem_of_mem_take hg | exact List.mem_of_mem_drop hg | exact List.mem_of_mem_take (List.mem_of_mem_drop hg))) (by omega) | exact Nat.le_trans (g2 g (by first | exact hg | exact List.mem_of_mem_take hg | exact List.mem_of_mem_drop hg | exact List.mem_of_mem_take (List.mem_of_mem_drop hg))) (by omega) | exact Nat.le_trans (bF g (by first | exact hg | exact List.mem_of_mem_take hg | exact List.mem_of_mem_drop hg | exact List.mem_of_mem_take (List.mem_of_mem_drop hg))) (by omega))) rfl ?_; rintro _ _ ⟨rfl, rfl⟩; rw [decide_eq_true (by first | exact (by simp only [List.map_take, List.map_drop, pairs_snd, hDL, hDgL, hBL, hBgL, hUL, hUgL, ← hV, n1.out, n2.out, n3.out, hT2.out]; first | exact e1 | exact e2 | exact e3 | exact e4 | exact e5 | exact e6 | exact e7 | exact e8) | exact (by simp only [List.map_take, List.map_drop, pairs_snd, hDL, hDgL, hBL, hBgL, hUL, hUgL, hfL, ← hV, n1.out, n2.out, n3.out, hT2.out]; first | exact e1 | exact e2 | exact e3 | exact e4 | exact e5 | exact e6 | exact e7 | exact e8 | exact e9))]; refine W_norm rfl ?_)
      | (refine K_bin ?_; first
        | (refine W_add rfl rfl (IntWalk.i64_in _ (by first | omega | (simp only [List.length_set, List.length_append, List.length_take, List.length_drop, List.length_replicate, List.length_cons, List.length_nil, decs_length, List.length_map]; omega))) ?_; refine W_norm rfl ?_)
        | (refine W_sub rfl rfl (IntWalk.i64_in _ (by first | omega | (simp only [List.length_set, List.length_append, List.length_take, List.length_drop, List.length_replicate, List.length_cons, List.length_nil, decs_length, List.length_map]; omega))) ?_; refine W_norm rfl ?_)
      )
      | (refine K_pick ?_; first
        | refine W_pick_t rfl rfl (W_norm rfl ?_)
        | refine W_pick_f rfl rfl (W_norm rfl ?_)
      )
      | (refine K_load ?_; first
        | (refine W_loadRF hs rfl (by assumption) rfl ?_; refine W_norm rfl ?_)
        | (refine W_loadRP hs rfl (by assumption) rfl ?_; refine W_norm rfl ?_)
      )
      | (refine K_slice ?_; first
        | (refine W_sliceR rfl rfl rfl (by assumption) rfl ⟨(by first | omega | (simp only [List.length_set, List.length_append, List.length_take, List.length_drop, List.length_replicate, List.length_cons, List.length_nil, decs_length, List.length_map]; omega)), (by first | omega | (simp only [List.length_set, List.length_append, List.length_take, List.length_drop, List.length_replicate, List.length_cons, List.length_nil, decs_length, List.length_map]; omega)), (by first | omega | (simp only [List.length_set, List.length_append, List.length_take, List.length_drop, List.length_replicate, List.length_cons, List.length_nil, decs_length, List.length_map]; omega))⟩ ?_; intro _ _; refine W_norm rfl ?_)
        | (refine W_sliceRTo rfl rfl (by assumption) rfl ⟨(by first | omega | (simp only [List.length_set, List.length_append, List.length_take, List.length_drop, List.length_replicate, List.length_cons, List.length_nil, decs_length, List.length_map]; omega)), (by first | omega | (simp only [List.length_set, List.length_append, List.length_take, List.length_drop, List.length_replicate, List.length_cons, List.length_nil, decs_length, List.length_map]; omega))⟩ ?_; intro _ _; refine W_norm rfl ?_)
        | (refine W_sliceRFrom rfl rfl (by assumption) rfl ⟨(by first | omega | (simp only [List.length_set, List.length_append, List.length_take, List.length_drop, List.length_replicate, List.length_cons, List.length_nil, decs_length, List.length_map]; omega)), (by first | omega | (simp only [List.length_set, List.length_append, List.length_take, List.length_drop, List.length_replicate, List.length_cons, List.length_nil, decs_length, List.length_map]; omega))⟩ ?_; intro _ _; refine W_norm rfl ?_)
      )
    )
    | (refine K_code ?_; first
      | refine W_seq ?_
      | refine W_cond_f rfl ?_
      | refine W_skip ?_
      | refine W_ret ?_
      | refine W_draw rfl ?_
    )
    | refine seqK_n ?_
    | (refine fnK_r rfl ?_; try dsimp only [gd_z, gd_s]))
  exact ⟨_, rfl, rfl⟩

end Go.Proofs.YtkmhbkanbbcgnaaDoor
