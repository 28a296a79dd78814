/-
  Walking, ninth part: slices of slices.
-/
import Derived.Test.YtfmldkjidfigbaaDoorJxW8
set_option linter.unusedVariables false
set_option linter.unusedSimpArgs false
namespace Go.Jx
open Go

section
variable {α : Type} {E : El α} {R R' : Ro} {v u : SV} {c : Hp} {M : List Hp} {h : Heap} {t ts : TypeId}

/-- Slices that are only read: each one's value, and what it has. -/
def NsR (E : El α) (R : Ro) (v : SV) (G : List (SV × List α)) : Prop := SlR svEl R v (G.map Prod.fst) ∧ ∀ g ∈ G, SlR E R g.1 g.2
theorem NsR.mono {G : List (SV × List α)} (l : R.le R') (p : NsR E R v G) : NsR E R' v G := ⟨p.1.mono l, fun g hg => (p.2 g hg).mono l⟩
theorem NsR.now {G : List (SV × List α)} (s : Sep R M h) (p : NsR E R v G) : NsR E (Now h) v G := p.mono s.le
theorem NsR.add {G : List (SV × List α)} (p : NsR E R v G) (c : Hp) : NsR E (R.add c) v G := p.mono (Ro.le_add _ _)
theorem NsR.ln {G : List (SV × List α)} (p : NsR E R v G) : Len v G.length := by have := p.1.ln; rwa [List.length_map] at this
theorem getD_map_fst {β γ : Type} (G : List (β × γ)) (i : Nat) (a : β) (b : γ) : (G.map Prod.fst).getD i a = (G.getD i (a, b)).1 := by
  simp only [List.getD_eq_getElem?_getD, List.getElem?_map]
  cases G[i]? <;> rfl
theorem getD_map_snd {β γ : Type} (G : List (β × γ)) (i : Nat) (a : β) (b : γ) : (G.map Prod.snd).getD i b = (G.getD i (a, b)).2 := by
  simp only [List.getD_eq_getElem?_getD, List.getElem?_map]
  cases G[i]? <;> rfl
theorem getD_mem {β : Type} {G : List β} {i : Nat} {d : β} (h : i < G.length) : G.getD i d ∈ G := by
  rw [List.getD_eq_getElem?_getD, List.getElem?_eq_getElem h]; exact List.getElem_mem h
theorem NsR.row {G : List (SV × List α)} (p : NsR E R v G) {i : Nat} (hi : i < G.length) : SlR E R ((G.map Prod.fst).getD i .nils) ((G.map Prod.snd).getD i []) := by
  rw [getD_map_fst G i .nils [], getD_map_snd G i .nils []]
  exact p.2 _ (getD_mem hi)
theorem NsR.of {G : List (SV × List α)} {v' : SV} (p : NsR E R v G) {G' : List (SV × List α)} (h1 : SlR svEl R v' (G'.map Prod.fst)) (h2 : ∀ g ∈ G', g ∈ G) : NsR E R v' G' := ⟨h1, fun g hg => p.2 g (h2 g hg)⟩

theorem Sep.reord {N : List Hp} (s : Sep R M h) (k : ∀ [BEq (Nat × AO)] [LawfulBEq (Nat × AO)] (a : Nat × AO), N.flatten.count a = M.flatten.count a) : Sep R N h := by
  letI i1 : DecidableEq (Nat × AO) := fun a b => Classical.propDecidable (a = b)
  letI i2 : BEq (Nat × AO) := instBEqOfDecidableEq
  exact s.perm ((@List.perm_iff_count _ i2 inferInstance _ _).2 fun a => (k a).symm)
theorem NsR.take {G : List (SV × List α)} {v' : SV} {n : Nat} (q : SlR svEl R v' ((G.map Prod.fst).take n)) (p : NsR E R v G) : NsR E R v' (G.take n) := ⟨by rw [List.map_take]; exact q, fun g hg => p.2 g (List.mem_of_mem_take hg)⟩
theorem NsR.drop {G : List (SV × List α)} {v' : SV} {n : Nat} (q : SlR svEl R v' ((G.map Prod.fst).drop n)) (p : NsR E R v G) : NsR E R v' (G.drop n) := ⟨by rw [List.map_drop]; exact q, fun g hg => p.2 g (List.mem_of_mem_drop hg)⟩
theorem NsR.cut {G : List (SV × List α)} {v' : SV} {n m : Nat} (q : SlR svEl R v' (((G.map Prod.fst).take n).drop m)) (p : NsR E R v G) : NsR E R v' ((G.take n).drop m) := ⟨by rw [List.map_drop, List.map_take]; exact q, fun g hg => p.2 g (List.mem_of_mem_take (List.mem_of_mem_drop hg))⟩
/-- Some of it, in any order. -/
theorem Sep.some {N : List Hp} (s : Sep R M h) (X : Hp) (k : ∀ [BEq (Nat × AO)] [LawfulBEq (Nat × AO)] (a : Nat × AO), N.flatten.count a + X.count a = M.flatten.count a) : Sep R N h := by
  have h1 : Sep R (N ++ [X]) h := s.reord fun a => by rw [← k a]; simp
  exact h1.sublist (by simp)

/-- A slice in a slice of one's own. -/
structure Hd (α : Type) where
  v : SV
  L : List α
  c : Hp
def hpOf (H : List (Hd α)) : Hp := H.flatMap Hd.c
theorem hpOf_append (A B : List (Hd α)) : hpOf (A ++ B) = hpOf A ++ hpOf B := by simp [hpOf]
theorem hpOf_cons (a : Hd α) (B : List (Hd α)) : hpOf (a :: B) = a.c ++ hpOf B := rfl
theorem hpOf_nil : hpOf ([] : List (Hd α)) = [] := rfl
def NsO (E : El α) (t ts : TypeId) (u : SV) (H : List (Hd α)) (c : Hp) : Prop := AccS svEl ts u (H.map Hd.v) c ∧ ∀ r ∈ H, OwnS E t r.v r.L r.c
theorem NsO.nil (t ts : TypeId) : NsO E t ts .nils [] [] := ⟨AccS.nil ts, by simp⟩
theorem NsO.ln {H : List (Hd α)} (p : NsO E t ts u H c) : Len u H.length := by have := p.1.ln; rwa [List.length_map] at this
def pairs (H : List (Hd α)) : List (SV × List α) := H.map fun r => (r.v, r.L)
theorem pairs_fst (H : List (Hd α)) : (pairs H).map Prod.fst = H.map Hd.v := by simp [pairs]
theorem pairs_snd (H : List (Hd α)) : (pairs H).map Prod.snd = H.map Hd.L := by simp [pairs]
theorem pairs_length (H : List (Hd α)) : (pairs H).length = H.length := by simp [pairs]

theorem OwnS.all {L : List α} {c : Hp} (p : OwnS E t v L c) (s : ∀ x ∈ c, h.get x.1 = some x.2) : SlR E (Now h) v L := by
  rcases p with ⟨h1, _, h2⟩ | ⟨id, kd, rfl, rfl, hk⟩
  · exact .inl ⟨h1, h2⟩
  · exact Sl.wholeE (s (id, .cells t kd (L.flatMap E.enc)) (by simp))
theorem OwnS.inR {L : List α} {c : Hp} (p : OwnS E t v L c) (s : ∀ x ∈ c, R x.1 x.2) : SlR E R v L := by
  rcases p with ⟨h1, _, h2⟩ | ⟨id, kd, rfl, rfl, hk⟩
  · exact .inl ⟨h1, h2⟩
  · refine .inr ⟨id, 0, _, t, kd, L.flatMap E.enc, rfl, Nat.le_refl _, s (id, .cells t kd (L.flatMap E.enc)) (by simp), fun i x hx => ?_⟩
    rw [Nat.zero_add, List.flatMap_def]
    exact readN_flatten (by intro c hc; obtain ⟨a, _, rfl⟩ := List.mem_map.1 hc; exact E.len a) (by rw [List.getElem?_map, hx]; rfl)
theorem NsO.inR {H : List (Hd α)} (p : NsO E t ts u H c) (s1 : ∀ x ∈ c, R x.1 x.2) (s2 : ∀ x ∈ hpOf H, R x.1 x.2) : NsR E R u (pairs H) := by
  refine ⟨by rw [pairs_fst]; exact p.1.1.inR s1, fun g hg => ?_⟩
  obtain ⟨r, hr, rfl⟩ := List.mem_map.1 hg
  exact (p.2 r hr).inR fun x hx => s2 x (List.mem_flatMap.2 ⟨r, hr, hx⟩)
theorem NsO.now {H : List (Hd α)} (p : NsO E t ts u H c) (s : Sep R M h) (h1 : c ∈ M) (h2 : hpOf H ∈ M) : NsR E (Now h) u (pairs H) :=
  p.inR (fun x hx => s.get x (List.mem_flatten.2 ⟨_, h1, hx⟩)) (fun x hx => s.get x (List.mem_flatten.2 ⟨_, h2, hx⟩))
/-- Frozen, the slice and what is in it. -/
theorem NsO.add {H : List (Hd α)} (p : NsO E t ts u H c) (R : Ro) : NsR E ((R.add c).add (hpOf H)) u (pairs H) :=
  p.inR (fun x hx => .inl (.inr hx)) (fun x hx => .inr hx)
/-- One more. -/
theorem NsO.push {H : List (Hd α)} {r : Hd α} {u' : SV} {c' : Hp} (p : NsO E t ts u H c) (q : AccS svEl ts u' (H.map Hd.v ++ [r.v]) c') (k : OwnS E t r.v r.L r.c) : NsO E t ts u' (H ++ [r]) c' := by
  refine ⟨by simpa using q, fun x hx => ?_⟩
  rcases List.mem_append.1 hx with hx | hx
  · exact p.2 x hx
  · simp at hx; subst hx; exact k
theorem NsO.of {H H' : List (Hd α)} {u' : SV} {c' : Hp} (p : NsO E t ts u H c) (q : AccS svEl ts u' (H'.map Hd.v) c') (k : ∀ r ∈ H', r ∈ H) : NsO E t ts u' H' c' := ⟨q, fun r hr => p.2 r (k r hr)⟩
end

/-! ## strings -/
section
variable {D : Nat → Option MFunc} {Q : Ex → List AV → Heap → Prop} {e : List AV} {h : Heap} {dst : Option Nat} {r : List MI}
theorem W_sliceStr {x a b : Rnd} {s : List UInt8} {i j : Int} (hx : rd e x = .sc (.str s)) (ha : rd e a = .sc (.int .i64 i)) (hb : rd e b = .sc (.int .i64 j)) (hij : 0 ≤ i ∧ i ≤ j ∧ j ≤ s.length) (k : W D (.ops r (put e dst (.sc (.str ((s.take j.toNat).drop i.toNat)))) h) Q) :
    W D (.ops (⟨dst, .sliceStr x (some a) (some b), none⟩ :: r) e h) Q := by
  refine W_act rfl (v := .sc (.str ((s.take j.toNat).drop i.toNat))) (h' := h) ?_ k
  show (match rd e x with
    | .sc (.str s) => (boundsA s.length s.length ((some a).map (rd e)) ((some b).map (rd e))).map fun (b : Nat × Nat) => AV.sc (.str ((s.take b.2).drop b.1))
    | _ => none).map _ = _
  rw [hx]
  simp only [Option.map_some, ha, hb]
  rw [boundsA_both hij]; rfl
theorem W_sliceStrTo {x b : Rnd} {s : List UInt8} {j : Int} (hx : rd e x = .sc (.str s)) (hb : rd e b = .sc (.int .i64 j)) (hij : 0 ≤ j ∧ j ≤ s.length) (k : W D (.ops r (put e dst (.sc (.str (s.take j.toNat)))) h) Q) :
    W D (.ops (⟨dst, .sliceStr x none (some b), none⟩ :: r) e h) Q := by
  refine W_act rfl (v := .sc (.str (s.take j.toNat))) (h' := h) ?_ k
  show (match rd e x with
    | .sc (.str s) => (boundsA s.length s.length ((none : Option Rnd).map (rd e)) ((some b).map (rd e))).map fun (b : Nat × Nat) => AV.sc (.str ((s.take b.2).drop b.1))
    | _ => none).map _ = _
  rw [hx]
  simp only [Option.map_some, Option.map_none, hb]
  rw [boundsA_hi, boundsA_both ⟨by omega, hij.1, hij.2⟩]; rfl
theorem W_sliceStrFrom {x a : Rnd} {s : List UInt8} {i : Int} (hx : rd e x = .sc (.str s)) (ha : rd e a = .sc (.int .i64 i)) (hij : 0 ≤ i ∧ i ≤ s.length) (k : W D (.ops r (put e dst (.sc (.str (s.drop i.toNat)))) h) Q) :
    W D (.ops (⟨dst, .sliceStr x (some a) none, none⟩ :: r) e h) Q := by
  refine W_act rfl (v := .sc (.str (s.drop i.toNat))) (h' := h) ?_ k
  show (match rd e x with
    | .sc (.str s) => (boundsA s.length s.length ((some a).map (rd e)) ((none : Option Rnd).map (rd e))).map fun (b : Nat × Nat) => AV.sc (.str ((s.take b.2).drop b.1))
    | _ => none).map _ = _
  rw [hx]
  simp only [Option.map_some, Option.map_none, ha]
  rw [boundsA_lo, boundsA_both ⟨hij.1, hij.2, by omega⟩]
  simp
end

/-! ## pointers that go by 'unsafe'; bytes that become a string -/
section
variable {D : Nat → Option MFunc} {Q : Ex → List AV → Heap → Prop} {e : List AV} {h : Heap} {dst : Option Nat} {r : List MI} {R : Ro} {M : List Hp} {t : TypeId}
theorem W_ptrUnsafe {x : Rnd} {id off : Nat} {kd : Kind} {cs : List SV} (s : Sep R M h) (k : Nat) (hx : rd e x = .sc (.ptr id off)) (hk : M[k]? = some [(id, .cells t kd cs)]) (ho : Nat.blt off cs.length = true) (K : W D (.ops r (put e dst (.sc (.ptr id off))) h) Q) :
    W D (.ops (⟨dst, .conv .ptrUnsafe x, none⟩ :: r) e h) Q := by
  refine W_act rfl (v := .sc (.ptr id off)) (h' := h) ?_ K
  show convA .ptrUnsafe (rd e x) h = _
  rw [hx]
  simp only [convA, s.at1 k hk]
  rw [if_pos (show off < cs.length from Nat.le_of_ble_eq_true ho)]
theorem W_unsafePtr {x : Rnd} {id n : Nat} {u : TypeId} {cs : List SV} (s : Sep R M h) (k : Nat) (hx : rd e x = .sc (.ptr id 0)) (hk : M[k]? = some [(id, .cells u .own cs)]) (ho : decide (0 < n ∧ n ≤ cs.length) = true) (K : W D (.ops r (put e dst (.sc (.ptr id 0))) h) Q) :
    W D (.ops (⟨dst, .conv (.unsafePtr u n) x, none⟩ :: r) e h) Q := by
  refine W_act rfl (v := .sc (.ptr id 0)) (h' := h) ?_ K
  show convA (.unsafePtr u n) (rd e x) h = _
  rw [hx]
  have := of_decide_eq_true ho
  simp only [convA, s.at1 k hk]
  rw [if_pos ⟨trivial, trivial, this.1, this.2⟩]
theorem W_nePtrSame {q : EqQ} {x y : Rnd} {i o : Nat} (hx : rd e x = .sc (.ptr i o)) (hy : rd e y = .sc (.ptr i o)) (hq : q = .ptr) (k : W D (.ops r (put e dst (.sc (.bool false))) h) Q) : W D (.ops (⟨dst, .bin .neq q x y, none⟩ :: r) e h) Q := by
  subst hq
  refine W_bin hx hy ?_ k
  show (eqA .ptr (.sc (.ptr i o)) (.sc (.ptr i o))).map _ = _
  simp [eqA]
theorem W_usliceN {x : Rnd} (hx : rd e x = .sc .nils) (k : W D (.ops r (put e dst (.sc .nilp)) h) Q) : W D (.ops (⟨dst, .usliceData x, none⟩ :: r) e h) Q :=
  W_act rfl (v := .sc .nilp) (h' := h) (by show (match rd e x with | .sc .nils => some (AV.sc .nilp, h) | .sc (.slice id off _ cap) => if cap = 0 then none else some (AV.sc (.ptr id off), h) | _ => none) = _; rw [hx]) k
theorem W_usliceS {x : Rnd} {id off len cap : Nat} (hx : rd e x = .sc (.slice id off len cap)) (hc : cap ≠ 0) (k : W D (.ops r (put e dst (.sc (.ptr id off))) h) Q) : W D (.ops (⟨dst, .usliceData x, none⟩ :: r) e h) Q :=
  W_act rfl (v := .sc (.ptr id off)) (h' := h) (by show (match rd e x with | .sc .nils => some (AV.sc .nilp, h) | .sc (.slice id off _ cap) => if cap = 0 then none else some (AV.sc (.ptr id off), h) | _ => none) = _; rw [hx]; simp only; rw [if_neg hc]) k
theorem W_ustringN {x n : Rnd} {u : TypeId} {kd : IntKind} (hx : rd e x = .sc .nilp) (hn : rd e n = .sc (.int kd 0)) (k : W D (.ops r (put e dst (.sc (.str []))) h) Q) : W D (.ops (⟨dst, .ustring u x n, none⟩ :: r) e h) Q :=
  W_act rfl (v := .sc (.str [])) (h' := h) (by show ustringA u (rd e x) (rd e n) h = _; rw [hx, hn]; rfl) k
theorem W_ustringS {x n : Rnd} {id : Nat} {kd : Kind} {kn : IntKind} {m : Int} {cs : List SV} {b : List UInt8} (s : Sep R M h) (k : Nat) (hx : rd e x = .sc (.ptr id 0)) (hn : rd e n = .sc (.int kn m)) (hk : M[k]? = some [(id, .cells t kd cs)]) (hkd : kd ≠ .ro) (hm : 0 < m ∧ m ≤ 9223372036854775807) (hl : m.toNat = cs.length) (hb : bytesOfCells cs = some b)
    (K : ∀ h', Sep R (M.eraseIdx k) h' → W D (.ops r (put e dst (.sc (.str b))) h') Q) : W D (.ops (⟨dst, .ustring t x n, none⟩ :: r) e h) Q := by
  have h1 := (s.turn k (.cells t .ro cs) hk).drop k
  have e1 : (M.set k [(id, .cells t .ro cs)]).eraseIdx k = M.eraseIdx k := by
    have : ∀ (M : List Hp) (k : Nat) (c : Hp), (M.set k c).eraseIdx k = M.eraseIdx k := by
      intro M
      induction M with
      | nil => intro k c; rfl
      | cons d M ih =>
        intro k c
        cases k with
        | zero => rfl
        | succ k => simp [ih]
    exact this _ _ _
  rw [e1] at h1
  refine W_act rfl (v := .sc (.str b)) (h' := h.set id (.cells t .ro cs)) ?_ (K _ h1)
  show ustringA t (rd e x) (rd e n) h = _
  rw [hx, hn]
  unfold ustringA
  simp only
  rw [if_neg (by rw [show IntKind.i64.max = 9223372036854775807 by decide]; omega), if_neg (by omega)]
  simp only [s.at1 k hk]
  rw [if_pos ⟨trivial, hkd, trivial⟩]
  have : readN cs 0 m.toNat = some cs := by rw [readN_some (by omega), List.drop_zero, hl, List.take_length]
  rw [this]
  simp only [hb, Option.map_some]
end

/-- A fact that arithmetic is not to look at. -/
def Hid (p : Prop) : Prop := p
theorem Hid.out {p : Prop} (h : Hid p) : p := h

/-! ## calls of a function that is a value -/
section
variable {D : Nat → Option MFunc} {Q : Ex → List AV → Heap → Prop} {e : List AV} {h : Heap} {dst : Option Nat} {r : List MI}
theorem W_callv {x : Rnd} {f : Nat} {caps : List (Nat × Nat)} {args : List Rnd} {as : List AV} {P : AV → Heap → Prop} (hx : rd e x = .sc (.func f caps)) (ha : args.map (rd e) ++ caps.map (fun c => AV.sc (.ptr c.1 c.2)) = as)
    (hs : W D (.call f as h) (fun _ vs h' => ∃ v, vs = [v] ∧ P v h')) (k : ∀ v h', P v h' → W D (.ops r (put e dst v) h') Q) : W D (.ops (⟨dst, .callv x args, none⟩ :: r) e h) Q := by
  obtain ⟨n, y, vs, h', hr, v, rfl, hp⟩ := W.out hs
  obtain ⟨m, z, us, h2, hr2, hq⟩ := W.out (k v h' hp)
  refine W_run (n := Nat.max n m + 1) (x := z) (vs := us) (h := h2) ?_ hq
  rw [run]
  simp only [wantedA, isCall, calleeA, hx]
  rw [ha, run_le (Nat.le_max_left n m) hr]
  exact run_le (Nat.le_max_right n m) hr2
theorem W_callvN {x : Rnd} {f : Nat} {caps : List (Nat × Nat)} {args : List Rnd} {as : List AV} {P : AV → Heap → Prop} (g : Nat) (hx : rd e x = .sc (.func f caps)) (hg : Nat.beq f g = true)
    (hs : W D (.call g as h) (fun _ vs h' => ∃ v, vs = [v] ∧ P v h')) (ha : args.map (rd e) ++ caps.map (fun c => AV.sc (.ptr c.1 c.2)) = as) (k : ∀ v h', P v h' → W D (.ops r (put e dst v) h') Q) : W D (.ops (⟨dst, .callv x args, none⟩ :: r) e h) Q := by
  have : f = g := Nat.eq_of_beq_eq_true hg
  subst this
  exact W_callv hx ha hs k
end

/-! ## what a law is handed: slices of slices -/
theorem rows_of {α : Type} {E : El α} {H : Heap} {P : α → Prop} : ∀ {L : List SV}, (∀ s ∈ L, ∃ X : List α, Sl E.enc E.n H s X ∧ (∀ a ∈ X, P a) ∧ X.length ≤ 2 ^ 63 - 1) →
    ∃ G : List (SV × List α), G.map Prod.fst = L ∧ (∀ g ∈ G, SlR E (Now H) g.1 g.2) ∧ (∀ g ∈ G, ∀ a ∈ g.2, P a) ∧ ∀ g ∈ G, g.2.length ≤ 2 ^ 63 - 1
  | [], _ => ⟨[], rfl, by simp, by simp, by simp⟩
  | s :: L, h => by
    obtain ⟨G, h1, h2, h3, h4⟩ := rows_of (E := E) (H := H) (P := P) (L := L) (fun s hs => h s (by simp [hs]))
    obtain ⟨X, h5, h6, h7⟩ := h s (by simp)
    refine ⟨(s, X) :: G, by simp [h1], ?_, ?_, ?_⟩ <;> intro g hg <;> rcases List.mem_cons.1 hg with rfl | hg
    · exact h5
    · exact h2 g hg
    · exact h6
    · exact h3 g hg
    · exact h7
    · exact h4 g hg
theorem OpenS.ns {H : Heap} {ts t : TypeId} {n : Nat} {el : List Sh} {v : SV} (o : OpenS H (.slice ts 1 [.slice t n el]) v) {α : Type} {E : El α} {P : α → Prop} (hn : n = E.n) (hel : ∀ l, OpenL H el l → ∃ a, l = E.enc a ∧ P a) :
    ∃ G : List (SV × List α), NsR E (Now H) v G ∧ (∀ g ∈ G, ∀ a ∈ g.2, P a) ∧ G.length ≤ 2 ^ 63 - 1 ∧ ∀ g ∈ G, g.2.length ≤ 2 ^ 63 - 1 := by
  subst hn
  obtain ⟨L, h1, h2, h3⟩ := o.sl (enc := svEl.enc) (R := fun s => OpenS H (.slice t E.n el) s) svEl.len (fun l o => by
    simp only [OpenL] at o
    obtain ⟨s, _, rfl, h, rfl⟩ := o
    exact ⟨s, rfl, h⟩)
  obtain ⟨G, h4, h5, h6, h7⟩ := rows_of (E := E) (H := H) (P := P) (L := L) (fun s hs => (h2 s hs).sl (enc := E.enc) E.len hel)
  refine ⟨G, ⟨by rw [h4]; exact h1, h5⟩, h6, ?_, h7⟩
  rw [← h4, List.length_map] at h3; exact h3
/-- The same steps, put together the other way. -/
theorem W_assoc {D : Nat → Option MFunc} {a b c : MCode} {e : List AV} {h : Heap} {Q : Ex → List AV → Heap → Prop} (k : W D (.code (.seq (.seq a b) c) e h) Q) : W D (.code (.seq a (.seq b c)) e h) Q := by
  obtain ⟨n, x, e', h', hr, hq⟩ := k.out
  cases n with
  | zero => simp [run] at hr
  | succ n =>
  cases n with
  | zero => simp [run] at hr
  | succ n =>
  refine W_run (n := n + 1 + 1 + 1) ?_ hq
  rw [run] at hr ⊢
  cases ha : run D n (.code a e h) with
  | none => rw [run, ha] at hr; simp at hr
  | some o =>
    obtain ⟨x1, e1, h1⟩ := o
    rw [run_le (show n ≤ n + 1 + 1 by omega) ha]
    rw [run, ha] at hr
    cases x1 with
    | normal =>
      simp only at hr ⊢
      cases hb : run D n (.code b e1 h1) with
      | none => rw [hb] at hr; simp at hr
      | some o2 =>
        obtain ⟨x2, e2, h2⟩ := o2
        rw [hb] at hr
        rw [run, run_le (Nat.le_succ n) hb]
        cases x2 with
        | normal =>
          simp only at hr ⊢
          exact hr
        | exit j => exact hr
        | ret => exact hr
    | exit j => exact hr
    | ret => exact hr
/-- A closed law's end. -/
theorem W_closed {D : Nat → Option MFunc} {m : MFunc} {j : Job} (hm : m.results = [.tmp 0]) (hr : ∃ n, (run D n j).map (fun o => (o.1, o.2.1.getD 0 undefA)) = some (.ret, .sc (.bool true))) : W D j (fnK m fun _ vs _ => vs = [.sc (.bool true)]) := by
  obtain ⟨n, hr⟩ := hr
  simp only [Option.map_eq_some_iff, Prod.mk.injEq] at hr
  obtain ⟨⟨x, e, h⟩, hr, rfl, hv⟩ := hr
  refine W_run hr ?_
  unfold fnK
  exact ⟨_, by rw [hm]; simp only [resultsA, resultsAll, resultA, Option.map_some]; rw [show e.getD 0 undefA = _ from hv], rfl⟩

end Go.Jx
