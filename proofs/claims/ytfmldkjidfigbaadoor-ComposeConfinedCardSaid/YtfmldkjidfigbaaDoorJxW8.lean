/-
  Walking, eighth part: what functions answer out of cells; views; cells of a screen.
-/
import Derived.Test.YtfmldkjidfigbaaDoorJxW7
set_option linter.unusedVariables false
set_option linter.unusedSimpArgs false
namespace Go.Jx
open Go

section
variable {D : Nat → Option MFunc} {Q : Ex → List AV → Heap → Prop} {e : List AV} {h : Heap} {dst : Option Nat} {r : List MI}
variable {α : Type} {E : El α} {R : Ro} {M : List Hp} {v : SV} {L X : List α} {c : Hp} {t : TypeId}

theorem EnvB.of {e0 e : List AV} {ms ks : List Nat} {sl : List (Nat × AV)} (h : mkOK sl (fun k => e.getD k undefA) ms e0 ks some = some e) : EnvB e0 ms ks sl e := ⟨_, h⟩

theorem atB {e0 e : List AV} {ms ks : List Nat} {i : Nat} {b c : Bool} (h : b = c) (k : EnvB e0 ms ks [(i, .sc (.bool c))] e) : EnvB e0 ms ks [(i, .sc (.bool b))] e := by subst h; exact k
theorem W_lenV {x : Rnd} {m id o len : Nat} (hx : rd e x = .sc v) (hv : VwO m id o len v) (k : W D (.ops r (put e dst (.sc (.int .i64 (len : Int)))) h) Q) : W D (.ops (⟨dst, .lenSlice x, none⟩ :: r) e h) Q := by
  rcases hv with ⟨rfl, rfl | ⟨b, rfl⟩⟩ | ⟨cap, rfl, _⟩
  · exact W_act rfl (v := .sc (.int .i64 ((0 : Nat) : Int))) (h' := h) (by show (match rd e x with | .sc .nils => some (AV.sc (.int .i64 0)) | .sc (.eslice _) => some (AV.sc (.int .i64 0)) | .sc (.slice _ _ len _) => some (AV.sc (.int .i64 len)) | _ => none).map _ = _; rw [hx]; rfl) k
  · exact W_act rfl (v := .sc (.int .i64 ((0 : Nat) : Int))) (h' := h) (by show (match rd e x with | .sc .nils => some (AV.sc (.int .i64 0)) | .sc (.eslice _) => some (AV.sc (.int .i64 0)) | .sc (.slice _ _ len _) => some (AV.sc (.int .i64 len)) | _ => none).map _ = _; rw [hx]; rfl) k
  · exact W_lenS hx k
theorem W_indexVw {x i : Rnd} {m id o len : Nat} {kd : IntKind} {j : Int} (hx : rd e x = .sc v) (hi : rd e i = .sc (.int kd j)) (hv : VwO m id o len v) (hn : 0 ≤ j ∧ j < (len : Int))
    (k : W D (.ops r (put e dst (.sc (.ptr id ((o + j.toNat) * m)))) h) Q) : W D (.ops (⟨dst, .indexSlice m x i, none⟩ :: r) e h) Q := by
  rcases hv with ⟨rfl, _⟩ | ⟨cap, rfl, _⟩
  · simp at hn; omega
  · exact W_indexV hx hi hn k

theorem fnK_cellS {m : MFunc} {a n id : Nat} {kd : Kind} {cs vs : List SV} (s : Sep R M h) (k : Nat) (hm : m.results = [.cell a (some n)]) (ha : e.getD a undefA = .sc (.ptr id 0)) (hk : M[k]? = some [(id, .cells t kd cs)]) (hr : (readN cs 0 n).bind normC = some vs) (K : Q .ret [.agg vs] h) : fnK m Q .ret e h := by
  refine fnK_r (v := .agg vs) ?_ K
  rw [hm]
  simp only [resultsA, resultsAll, resultA, ha, loadA, s.at1 k hk, partA, bind_normC hr, Option.map_some]
theorem fnK_cellT {m : MFunc} {a b n id : Nat} {kd : Kind} {cs vs : List SV} {w : AV} (s : Sep R M h) (k : Nat) (hm : m.results = [.cell a (some n), .tmp b]) (ha : e.getD a undefA = .sc (.ptr id 0)) (hk : M[k]? = some [(id, .cells t kd cs)]) (hr : (readN cs 0 n).bind normC = some vs) (hb : e.getD b undefA = w) (hw : notTup w = true) (K : Q .ret [.tup [.agg vs, w]] h) : fnK m Q .ret e h :=
  fnK_cell2 hm ha (s.at1 k hk) hr hb hw K

/-- nil, or not. -/
theorem W_nilSl_t {q : EqQ} {x y : Rnd} (hx : rd e x = .sc .nils) (hy : rd e y = .sc .nils) (hq : q = .slice) (k : W D (.ops r (put e dst (.sc (.bool true))) h) Q) : W D (.ops (⟨dst, .bin .eql q x y, none⟩ :: r) e h) Q := by subst hq; exact W_bin hx hy rfl k
theorem W_nilSl_e {q : EqQ} {x y : Rnd} {b : Bool} (hx : rd e x = .sc (.eslice b)) (hy : rd e y = .sc .nils) (hq : q = .slice) (k : W D (.ops r (put e dst (.sc (.bool false))) h) Q) : W D (.ops (⟨dst, .bin .eql q x y, none⟩ :: r) e h) Q := by subst hq; exact W_bin hx hy rfl k
theorem W_nilSl_f {q : EqQ} {x y : Rnd} {i o l c : Nat} (hx : rd e x = .sc (.slice i o l c)) (hy : rd e y = .sc .nils) (hq : q = .slice) (k : W D (.ops r (put e dst (.sc (.bool false))) h) Q) : W D (.ops (⟨dst, .bin .eql q x y, none⟩ :: r) e h) Q := by subst hq; exact W_bin hx hy rfl k

/-- Elements that are the same. -/
theorem W_eqE {x y : Rnd} {xs ys : List SV} {ks : List LK} [DecidableEq α] (E : El α) (hx : rd e x = .agg xs) (hy : rd e y = .agg ys) (hxe : E.enc (E.dec xs) = xs) (hye : E.enc (E.dec ys) = ys) (hf : ∀ a, fits ks (E.enc a) = true)
    (k : W D (.ops r (put e dst (.sc (.bool (decide (E.dec xs = E.dec ys))))) h) Q) : W D (.ops (⟨dst, .bin .eql (.agg ks) x y, none⟩ :: r) e h) Q := by
  refine W_bin hx hy ?_ k
  have h1 := hf (E.dec xs)
  have h2 := hf (E.dec ys)
  rw [hxe] at h1
  rw [hye] at h2
  show (eqA (.agg ks) (.agg xs) (.agg ys)).map _ = _
  unfold eqA
  simp only
  rw [if_pos ⟨h1, h2⟩]
  simp only [Option.map_some]
  congr 3
  refine decide_eq_decide.2 ⟨fun h => by rw [h], fun h => by rw [← hxe, ← hye, h]⟩
theorem W_neE {x y : Rnd} {xs ys : List SV} {ks : List LK} [DecidableEq α] (E : El α) (hx : rd e x = .agg xs) (hy : rd e y = .agg ys) (hxe : E.enc (E.dec xs) = xs) (hye : E.enc (E.dec ys) = ys) (hf : ∀ a, fits ks (E.enc a) = true)
    (k : W D (.ops r (put e dst (.sc (.bool (!decide (E.dec xs = E.dec ys))))) h) Q) : W D (.ops (⟨dst, .bin .neq (.agg ks) x y, none⟩ :: r) e h) Q := by
  refine W_bin hx hy ?_ k
  have h1 := hf (E.dec xs)
  have h2 := hf (E.dec ys)
  rw [hxe] at h1
  rw [hye] at h2
  show (eqA (.agg ks) (.agg xs) (.agg ys)).map _ = _
  unfold eqA
  simp only
  rw [if_pos ⟨h1, h2⟩]
  simp only [Option.map_some]
  congr 4
  refine decide_eq_decide.2 ⟨fun h => by rw [h], fun h => by rw [← hxe, ← hye, h]⟩

/-- One is put together, and appended. -/
theorem W_appB1 {bytes a : Nat} {zero cs z2 : List SV} {x : Rnd} {m : Nat} {t2 : TypeId} {sz : Nat} {parts : List (Nat × Nat × Rnd)} (E : El α) (s : Sep R M h) (k : Nat) (hf : (fillA (zerosA z2 1) (parts.map fun p => (p.1, p.2.1, rd e p.2.2))).bind normC = some cs) (hs : rd (e.set a (.sc (.slice h.n 0 1 1))) x = .sc v) (hae : decide (a < e.length) = true)
    (p : AccS E t v L c) (hk : M[k]? = some c) (hm : m = E.n) (hcs : E.enc (E.dec cs) = cs)
    (hr : 0 < bytes ∧ (4 * (L.length + 1) + 1000) * bytes ≤ 2 ^ 48) (K : ∀ g v' c' h', AccS E t v' (L ++ [E.dec cs]) c' → Sep R (M.set k c') h' → W D (.ops r (put (e.set a g) dst (.sc v')) h') Q) :
    W D (.ops (⟨some a, .buildSlice t2 sz 1 z2 parts, none⟩ :: ⟨dst, .append t m bytes zero x (.t a), none⟩ :: r) e h) Q := by
  have hl : cs.length = E.n := by rw [← hcs, E.len]
  have hd : decs E 1 cs = [E.dec cs] := by
    show [E.dec (cs.take E.n)] = _
    rw [← hl, List.take_length]
  refine W_appB E s k hf hs (of_decide_eq_true hae) p hk hm (by rw [hd]; simp [hcs]) hr ?_
  intro g v' c' h' h1 h2
  rw [hd] at h1
  exact K g v' c' h' h1 h2
theorem W_buildS1 {cs z2 : List SV} {sz : Nat} {parts : List (Nat × Nat × Rnd)} (E : El α) (s : Sep R M h) (hf : (fillA (zerosA z2 1) (parts.map fun p => (p.1, p.2.1, rd e p.2.2))).bind normC = some cs) (hcs : E.enc (E.dec cs) = cs)
    (K : ∀ v' c' h', AccS E t v' [E.dec cs] c' → Sep R (c' :: M) h' → W D (.ops r (put e dst (.sc v')) h') Q) :
    W D (.ops (⟨dst, .buildSlice t sz 1 z2 parts, none⟩ :: r) e h) Q := by
  have hl : cs.length = E.n := by rw [← hcs, E.len]
  have hd : decs E 1 cs = [E.dec cs] := by
    show [E.dec (cs.take E.n)] = _
    rw [← hl, List.take_length]
  refine W_buildS E s hf (by rw [hd]; simp [hcs]) ?_
  intro v' c' h' h1 h2 h3
  subst h2
  rw [hd] at h1
  exact K _ _ _ ⟨h1, by simp⟩ h3
theorem W_buildS2 {cs z2 : List SV} {sz : Nat} {parts : List (Nat × Nat × Rnd)} (E : El α) (s : Sep R M h) (hf : (fillA (zerosA z2 2) (parts.map fun p => (p.1, p.2.1, rd e p.2.2))).bind normC = some cs) (hcs : E.enc (E.dec (cs.take E.n)) ++ E.enc (E.dec (cs.drop E.n)) = cs)
    (K : ∀ v' c' h', AccS E t v' [E.dec (cs.take E.n), E.dec (cs.drop E.n)] c' → Sep R (c' :: M) h' → W D (.ops r (put e dst (.sc v')) h') Q) :
    W D (.ops (⟨dst, .buildSlice t sz 2 z2 parts, none⟩ :: r) e h) Q := by
  have hl := congrArg List.length hcs
  rw [List.length_append, E.len, E.len] at hl
  have hd : decs E 2 cs = [E.dec (cs.take E.n), E.dec (cs.drop E.n)] := by
    show [E.dec (cs.take E.n), E.dec ((cs.drop E.n).take E.n)] = _
    rw [List.take_of_length_le (show (cs.drop E.n).length ≤ E.n by rw [List.length_drop]; omega)]
  refine W_buildS E s hf (by rw [hd]; simpa using hcs) ?_
  intro v' c' h' h1 h2 h3
  subst h2
  rw [hd] at h1
  exact K _ _ _ ⟨h1, by simp⟩ h3
theorem W_buildS0 {z2 : List SV} {sz : Nat} (E : El α) (s : Sep R M h) (K : ∀ v' c' h', AccS E t v' [] c' → Sep R (c' :: M) h' → W D (.ops r (put e dst (.sc v')) h') Q) :
    W D (.ops (⟨dst, .buildSlice t sz 0 z2 [], none⟩ :: r) e h) Q := by
  refine W_buildS E s (cs := []) rfl rfl ?_
  intro v' c' h' h1 h2 h3
  subst h2
  exact K _ _ _ ⟨h1, by simp⟩ h3

abbrev Wc (D : Nat → Option MFunc) (f : Nat) (args : List AV) (h : Heap) (P : AV → Heap → Prop) : Prop := W D (.call f args h) (fun _ vs h' => ∃ v, vs = [v] ∧ P v h')
abbrev i64 (x : Int) : AV := .sc (.int .i64 x)
abbrev bo (x : Bool) : AV := .sc (.bool x)

theorem AccS.one {id n : Nat} {kd : Kind} (hk : kd ≠ .ro) (hn : n = L.length) : AccS E t (.slice id 0 n n) L [(id, .cells t kd (L.flatMap E.enc))] := by subst hn; exact ⟨OwnS.one hk, by simp⟩
theorem AccS.pos (p : AccS E t v L c) (hl : 0 < L.length) : ∃ id kd, v = .slice id 0 L.length L.length ∧ c = [(id, .cells t kd (L.flatMap E.enc))] ∧ kd ≠ .ro := p.1.pos hl
theorem AccS.again {id n : Nat} {kd : Kind} {L' : List α} (hk : kd ≠ .ro) (hn : L'.length = n) : AccS E t (.slice id 0 n n) L' [(id, .cells t kd (L'.flatMap E.enc))] := AccS.one hk hn.symm

/-- A piece of code, and what is known behind it. -/
def midK (I : List (Nat × AV) → Heap → Prop) (e0 : List AV) (ms ks : List Nat) (Q : Ex → List AV → Heap → Prop) : Ex → List AV → Heap → Prop
  | .normal, e, h => ∃ sl, I sl h ∧ EnvB e0 ms ks sl e
  | .exit j, e, h => Q (.exit j) e h
  | .ret, e, h => Q .ret e h
theorem midK_n {I : List (Nat × AV) → Heap → Prop} {e0 : List AV} {ms ks : List Nat} (k : ∃ sl, I sl h ∧ EnvB e0 ms ks sl e) : midK I e0 ms ks Q .normal e h := k
theorem midK_x {I : List (Nat × AV) → Heap → Prop} {e0 : List AV} {ms ks : List Nat} {j : Nat} (k : Q (.exit j) e h) : midK I e0 ms ks Q (.exit j) e h := k
theorem midK_r {I : List (Nat × AV) → Heap → Prop} {e0 : List AV} {ms ks : List Nat} (k : Q .ret e h) : midK I e0 ms ks Q .ret e h := k
theorem W_midB {a b : MCode} (ms ks : List Nat) (I : List (Nat × AV) → Heap → Prop) (h1 : W D (.code a e h) (midK I e ms ks (seqK D b Q))) (h2 : ∀ sl us e' h', I sl h' → mkOK sl us ms e ks some = some e' → W D (.code b e' h') Q) : W D (.code (.seq a b) e h) Q := by
  refine W_seq (h1.mono ?_)
  intro x e' h' hq
  cases x with
  | normal =>
    obtain ⟨sl, h3, us, h4⟩ := hq
    exact seqK_n (h2 sl us e' h' h3 h4)
  | exit j => exact hq
  | ret => exact hq
attribute [irreducible] midK

/-- How long a slice is. -/
def Len (v : SV) (n : Nat) : Prop := (n = 0 ∧ (v = .nils ∨ ∃ b, v = .eslice b)) ∨ ∃ id off cap, v = .slice id off n cap
theorem SlR.ln (p : SlR E R v L) : Len v L.length := by
  rcases p with ⟨rfl, p⟩ | ⟨id, off, cap, t, kd, cs, rfl, _⟩
  · exact .inl ⟨rfl, p⟩
  · exact .inr ⟨_, _, _, rfl⟩
theorem OwnS.ln (p : OwnS E t v L c) : Len v L.length := by
  rcases p with ⟨rfl, _, p⟩ | ⟨id, kd, rfl, _⟩
  · exact .inl ⟨rfl, p⟩
  · exact .inr ⟨_, _, _, rfl⟩
theorem AccS.ln (p : AccS E t v L c) : Len v L.length := p.1.ln
theorem VwO.ln {m id o len : Nat} (p : VwO m id o len v) : Len v len := by
  rcases p with p | ⟨cap, rfl, _⟩
  · exact .inl p
  · exact .inr ⟨_, _, _, rfl⟩
theorem Len.sl {id off n cap : Nat} : Len (.slice id off n cap) n := .inr ⟨_, _, _, rfl⟩
theorem W_lenL {x : Rnd} {n : Nat} (hx : rd e x = .sc v) (hv : Len v n) (k : W D (.ops r (put e dst (.sc (.int .i64 (n : Int)))) h) Q) : W D (.ops (⟨dst, .lenSlice x, none⟩ :: r) e h) Q := by
  refine W_act rfl (v := .sc (.int .i64 (n : Int))) (h' := h) ?_ k
  show (match rd e x with | .sc .nils => some (AV.sc (.int .i64 0)) | .sc (.eslice _) => some (AV.sc (.int .i64 0)) | .sc (.slice _ _ len _) => some (AV.sc (.int .i64 len)) | _ => none).map _ = _
  rw [hx]
  rcases hv with ⟨rfl, rfl | ⟨b, rfl⟩⟩ | ⟨id, off, cap, rfl⟩ <;> rfl

theorem W_min2 {x y : Rnd} {k j : IntKind} {a b : Int} (hx : rd e x = .sc (.int k a)) (hy : rd e y = .sc (.int j b)) (K : W D (.ops r (put e dst (.sc (.int k (min a b)))) h) Q) : W D (.ops (⟨dst, .min [x, y], none⟩ :: r) e h) Q := by
  refine W_act rfl (v := .sc (.int k (min a b))) (h' := h) ?_ K
  show ((match [rd e x, rd e y] with | x :: r => foldA minA x r | [] => none)).map _ = _
  rw [hx, hy]
  simp only [foldA, minA, Option.map_some]
  congr 4
  split <;> omega
theorem W_max2 {x y : Rnd} {k j : IntKind} {a b : Int} (hx : rd e x = .sc (.int k a)) (hy : rd e y = .sc (.int j b)) (K : W D (.ops r (put e dst (.sc (.int k (max a b)))) h) Q) : W D (.ops (⟨dst, .max [x, y], none⟩ :: r) e h) Q := by
  refine W_act rfl (v := .sc (.int k (max a b))) (h' := h) ?_ K
  show ((match [rd e x, rd e y] with | x :: r => foldA maxA x r | [] => none)).map _ = _
  rw [hx, hy]
  simp only [foldA, maxA, Option.map_some]
  congr 4
  split <;> omega

/-- The first elements of one's own object. -/
def OwnP (E : El α) (t : TypeId) (v : SV) (L : List α) (c : Hp) : Prop :=
  (L = [] ∧ c = [] ∧ (v = .nils ∨ ∃ b, v = .eslice b)) ∨ ∃ id kd cap X, v = .slice id 0 L.length cap ∧ L.length ≤ cap ∧ c = [(id, .cells t kd ((L ++ X).flatMap E.enc))] ∧ kd ≠ .ro
theorem OwnS.p (p : OwnS E t v L c) : OwnP E t v L c := by
  rcases p with p | ⟨id, kd, rfl, rfl, hk⟩
  · exact .inl p
  · exact .inr ⟨id, kd, _, [], rfl, Nat.le_refl _, by rw [List.append_nil], hk⟩
theorem AccS.p (p : AccS E t v L c) : OwnP E t v L c := p.1.p
theorem VwO.p {id n : Nat} {kd : Kind} {m : Nat} (p : VwO m id 0 n v) (hn : 0 < n) (hl : n ≤ L.length) (hk : kd ≠ .ro) : OwnP E t v (L.take n) [(id, .cells t kd (L.flatMap E.enc))] := by
  rcases p with ⟨h, _⟩ | ⟨cap, rfl, hc⟩
  · omega
  · have e : (L.take n).length = n := by rw [List.length_take]; omega
    exact .inr ⟨id, kd, cap, L.drop n, by rw [e, Nat.zero_mul], by rw [e]; exact hc, by rw [List.take_append_drop], hk⟩
theorem OwnP.ln (p : OwnP E t v L c) : Len v L.length := by
  rcases p with ⟨rfl, _, p⟩ | ⟨id, kd, cap, X, rfl, _⟩
  · exact .inl ⟨rfl, p⟩
  · exact .inr ⟨_, _, _, rfl⟩
theorem OwnP.now (p : OwnP E t v L c) (s : Sep R M h) (hc : c ∈ M) : SlR E (Now h) v L := by
  rcases p with ⟨h1, _, h2⟩ | ⟨id, kd, cap, X, rfl, hcap, rfl, hk⟩
  · exact .inl ⟨h1, h2⟩
  · refine .inr ⟨id, 0, _, t, kd, _, rfl, hcap, s.get (id, .cells t kd ((L ++ X).flatMap E.enc)) (List.mem_flatten.2 ⟨_, hc, by simp⟩), fun i x hx => ?_⟩
    rw [Nat.zero_add, List.flatMap_def]
    refine readN_flatten (by intro c hc; obtain ⟨a, _, rfl⟩ := List.mem_map.1 hc; exact E.len a) ?_
    rw [List.getElem?_map, List.getElem?_append_left (List.getElem?_eq_some_iff.1 hx).1, hx]; rfl

theorem Sep.thin {R R' : Ro} {M : List Hp} {h : Heap} (s : Sep R' M h) (l : R.le R') : Sep R M h := ⟨fun id o k => s.ro _ _ (l _ _ k), s.get, s.nd, fun p hp o k => s.off p hp o (l _ _ k)⟩
theorem Sep.hd {R : Ro} {c : Hp} {M : List Hp} {h : Heap} (s : Sep R (c :: M) h) : Sep R [c] h := s.sublist (by simp)
theorem Sep.no {R : Ro} {M : List Hp} {h : Heap} (s : Sep R M h) : Sep R [[]] h := s.sublist (by simp)
theorem Sep.no0 {R : Ro} {M : List Hp} {h : Heap} (s : Sep R M h) : Sep R [] h := s.sublist (by simp)
theorem Sep.unadd {R : Ro} {c : Hp} {M : List Hp} {h : Heap} (s : Sep (R.add c) M h) : Sep R M h := s.thin (Ro.le_add _ _)
theorem SlR.add (p : SlR E R v L) (c : Hp) : SlR E (R.add c) v L := p.mono (Ro.le_add _ _)
theorem AccS.add (p : AccS E t v L c) (R : Ro) : SlR E (R.add c) v L := p.1.add R

/-- What a closed part was, is. -/
theorem Sep.same {R : Ro} {M N : List Hp} {h : Heap} (s : Sep R M h) (e : M = N) : Sep R N h := e ▸ s
theorem Sep.none {h h' : Heap} {N : List Hp} (s : Sep (Now h) N h') : Sep (Now h) [] h' := s.sublist (by simp)

end

/-! ## many plain steps at once, but nothing put together -/
def isFast2 (i : MI) : Bool := match i.op with | .build _ _ => false | _ => isFast i
def stepsB : List MI → List AV → StepR
  | [], e => some (e, [])
  | i :: r, e =>
    match isFast2 i with
    | true => (match pureA i.op e with | some v => forceV v (fun v => putK e i.dst v (fun e' => stepsB r e')) | none => none)
    | false => some (e, i :: r)
def stepsB1 : List MI → List AV → StepR
  | [], _ => none
  | i :: r, e =>
    match isFast2 i with
    | true => (match pureA i.op e with | some v => forceV v (fun v => putK e i.dst v (fun e' => stepsB r e')) | none => none)
    | false => none
theorem isFast2_fast {i : MI} (h : isFast2 i = true) : isFast i = true := by
  unfold isFast2 at h
  split at h
  · cases h
  · exact h
section
variable {D : Nat → Option MFunc} {Q : Ex → List AV → Heap → Prop} {e : List AV} {h : Heap} {dst : Option Nat} {r : List MI}
theorem W_stepsB : ∀ {l : List MI} {e e' : List AV} {r : List MI}, stepsB l e = some (e', r) → W D (.ops r e' h) Q → W D (.ops l e h) Q := by
  intro l
  induction l with
  | nil => intro e e' r hs k; simp only [stepsB, Option.some.injEq, Prod.mk.injEq] at hs; obtain ⟨rfl, rfl⟩ := hs; exact k
  | cons i l ih =>
    intro e e' r hs k
    rw [stepsB] at hs
    split at hs
    · rename_i hf
      obtain ⟨h1, h2, h3⟩ := isFast_spec (isFast2_fast hf)
      split at hs
      · rename_i v hv
        rw [forceV_eq, putK_eq] at hs
        have := ih hs k
        obtain ⟨d, op, g⟩ := i
        simp only at h1 h2 h3 hv this
        subst h1
        exact W_act h2 (by rw [h3, hv]; rfl) this
      · cases hs
    · simp only [Option.some.injEq, Prod.mk.injEq] at hs; obtain ⟨rfl, rfl⟩ := hs; exact k
theorem W_fastB {l : List MI} {e' : List AV} (hs : stepsB1 l e = some (e', r)) (k : W D (.ops r e' h) Q) : W D (.ops l e h) Q := by
  cases l with
  | nil => cases hs
  | cons i l =>
    rw [stepsB1] at hs
    split at hs
    · rename_i hf
      exact W_stepsB (l := i :: l) (by rw [stepsB, hf]; exact hs) k
    · cases hs
theorem W_buildN {zero cs : List SV} {parts : List (Nat × Nat × Rnd)} (hf : (fillA zero (parts.map fun p => (p.1, p.2.1, rd e p.2.2))).bind normC = some cs) (k : W D (.ops r (put e dst (.agg cs)) h) Q) : W D (.ops (⟨dst, .build zero parts, none⟩ :: r) e h) Q :=
  W_act rfl (v := .agg cs) (h' := h) (by show ((fillA zero (parts.map fun p => (p.1, p.2.1, rd e p.2.2))).map AV.agg).map (fun v => (v, h)) = _; rw [bind_normC hf]; rfl) k
end

/-! ## which operation it is -/
section
variable {D : Nat → Option MFunc} {Q : Ex → List AV → Heap → Prop} {e : List AV} {h : Heap} {dst : Option Nat} {r : List MI}
theorem K_bin {op : BinOp} {q : EqQ} {x y : Rnd} (k : W D (.ops (⟨dst, .bin op q x y, none⟩ :: r) e h) Q) : W D (.ops (⟨dst, .bin op q x y, none⟩ :: r) e h) Q := k
theorem K_load {g : Option Nat} {x : Rnd} (k : W D (.ops (⟨dst, .load g x, none⟩ :: r) e h) Q) : W D (.ops (⟨dst, .load g x, none⟩ :: r) e h) Q := k
theorem K_store {n : Nat} {x y : Rnd} (k : W D (.ops (⟨dst, .store n x y, none⟩ :: r) e h) Q) : W D (.ops (⟨dst, .store n x y, none⟩ :: r) e h) Q := k
theorem K_slice {n : Nat} {x : Rnd} {a b : Option Rnd} (k : W D (.ops (⟨dst, .slice n x a b, none⟩ :: r) e h) Q) : W D (.ops (⟨dst, .slice n x a b, none⟩ :: r) e h) Q := k
theorem K_index {n : Nat} {x y : Rnd} (k : W D (.ops (⟨dst, .indexSlice n x y, none⟩ :: r) e h) Q) : W D (.ops (⟨dst, .indexSlice n x y, none⟩ :: r) e h) Q := k
theorem K_append {t n b : Nat} {z : List SV} {x y : Rnd} (k : W D (.ops (⟨dst, .append t n b z x y, none⟩ :: r) e h) Q) : W D (.ops (⟨dst, .append t n b z x y, none⟩ :: r) e h) Q := k
theorem K_bslice {t n b : Nat} {z : List SV} {p : List (Nat × Nat × Rnd)} (k : W D (.ops (⟨dst, .buildSlice t n b z p, none⟩ :: r) e h) Q) : W D (.ops (⟨dst, .buildSlice t n b z p, none⟩ :: r) e h) Q := k
theorem K_call {f : Nat} {l : List Rnd} (k : W D (.ops (⟨dst, .call f l, none⟩ :: r) e h) Q) : W D (.ops (⟨dst, .call f l, none⟩ :: r) e h) Q := k
theorem K_alloc {t : Nat} {z : List SV} (k : W D (.ops (⟨dst, .alloc t z, none⟩ :: r) e h) Q) : W D (.ops (⟨dst, .alloc t z, none⟩ :: r) e h) Q := k
theorem K_box {t : Nat} {x : Rnd} (k : W D (.ops (⟨dst, .box t x, none⟩ :: r) e h) Q) : W D (.ops (⟨dst, .box t x, none⟩ :: r) e h) Q := k
theorem K_copy {n : Nat} {x y : Rnd} (k : W D (.ops (⟨dst, .copy n x y, none⟩ :: r) e h) Q) : W D (.ops (⟨dst, .copy n x y, none⟩ :: r) e h) Q := k
theorem K_make {t n b : Nat} {z : List SV} {x y : Rnd} (k : W D (.ops (⟨dst, .makeSlice t n b z x y, none⟩ :: r) e h) Q) : W D (.ops (⟨dst, .makeSlice t n b z x y, none⟩ :: r) e h) Q := k
theorem K_pick {a b c : Rnd} (k : W D (.ops (⟨dst, .pick a b c, none⟩ :: r) e h) Q) : W D (.ops (⟨dst, .pick a b c, none⟩ :: r) e h) Q := k
theorem K_conv {c : Cv} {x : Rnd} (k : W D (.ops (⟨dst, .conv c x, none⟩ :: r) e h) Q) : W D (.ops (⟨dst, .conv c x, none⟩ :: r) e h) Q := k
theorem K_len {x : Rnd} (k : W D (.ops (⟨dst, .lenSlice x, none⟩ :: r) e h) Q) : W D (.ops (⟨dst, .lenSlice x, none⟩ :: r) e h) Q := k
theorem K_build {z : List SV} {p : List (Nat × Nat × Rnd)} (k : W D (.ops (⟨dst, .build z p, none⟩ :: r) e h) Q) : W D (.ops (⟨dst, .build z p, none⟩ :: r) e h) Q := k
theorem K_guard {o : MOp} {g : Nat × Bool} (k : W D (.ops (⟨dst, o, some g⟩ :: r) e h) Q) : W D (.ops (⟨dst, o, some g⟩ :: r) e h) Q := k
theorem K_ops {l : List MI} (k : W D (.ops l e h) Q) : W D (.ops l e h) Q := k
theorem K_code {c : MCode} (k : W D (.code c e h) Q) : W D (.code c e h) Q := k
theorem K_dops {l l2 : List DI} {acc : List Rec} (k : W D (.dops l l2 e h acc) Q) : W D (.dops l l2 e h acc) Q := k
end

/-! ## regions that draw their order, with memory in parts -/
def CL (recs : List Rec) (l : List DI) (rs : List Rec) : Prop := checkLoads recs l rs = true
theorem CL_nil (recs rs : List Rec) : CL recs [] rs := by unfold CL checkLoads; rfl
theorem CL_skip {recs rs : List Rec} {d : DI} {l : List DI} {r : Rec} (hp : plainDI d = true) (k : CL recs l rs) : CL recs (d :: l) (r :: rs) := by
  unfold CL at k ⊢
  unfold checkLoads
  rw [k]
  simp only [plainDI, Bool.and_eq_true, Bool.or_eq_true, List.isEmpty_iff] at hp
  rcases hp.2 with h2 | ⟨h2, h3⟩
  · simp [h2]
  · simp [h2, h3]
theorem RecIs.hh {i : DI} {e : List AV} {h h1 : Heap} {rec : Rec} (r : RecIs i e h h1 rec) : rec.h = h := r.1
theorem RecIs.hh' {i : DI} {e : List AV} {h h1 : Heap} {rec : Rec} (r : RecIs i e h h1 rec) : rec.h' = h1 := r.2.1
def LoOk (recs : List Rec) (h : Heap) (id : Nat) : List Nat → Prop
  | [] => True
  | j :: l => (∃ q, recs[j]? = some q ∧ q.h.get id = h.get id) ∧ LoOk recs h id l
def HiOk (recs : List Rec) (h : Heap) (id : Nat) : List Nat → Prop
  | [] => True
  | j :: l => (∃ q, recs[j]? = some q ∧ q.h'.get id = h.get id) ∧ HiOk recs h id l
theorem loadA_same {agg : Option Nat} {id off : Nat} {h h' : Heap} (e : h'.get id = h.get id) : loadA agg (.sc (.ptr id off)) h' = loadA agg (.sc (.ptr id off)) h := by
  unfold loadA
  simp only [e]
theorem CL_load {recs rs : List Rec} {dst : Option Nat} {agg : Option Nat} {x : Rnd} {g : Option (Nat × Bool)} {lo hi : List Nat} {l : List DI} {r : Rec} {e : List AV} {h h' : Heap} {id off : Nat}
    (hr : RecIs ⟨⟨dst, .load agg x, g⟩, 1, lo, hi⟩ e h h' r) (hx : rd e x = .sc (.ptr id off)) (hlo : LoOk recs h id lo) (hhi : HiOk recs h id hi) (k : CL recs l rs) : CL recs (⟨⟨dst, .load agg x, g⟩, 1, lo, hi⟩ :: l) (r :: rs) := by
  unfold CL at k ⊢
  unfold checkLoads
  rw [k]
  obtain ⟨h1, h2, h3⟩ := hr
  cases hon : r.on with
  | false => simp
  | true =>
    obtain ⟨agg', x', hop, hx', hv⟩ := h3 rfl hon
    simp only [MOp.load.injEq] at hop
    obtain ⟨rfl, rfl⟩ := hop
    rw [hx'] at hv
    have key : ∀ h'', h''.get id = h.get id → loadIs (.load agg x) r.x h'' r.v = true := by
      intro h'' he
      rw [hx']
      refine loadIs_refl ?_
      rw [hx] at hv ⊢
      rw [loadA_same he]; exact hv
    have a1 : ∀ lo : List Nat, LoOk recs h id lo → (lo.all fun j => match recs[j]? with | some q => loadIs (.load agg x) r.x q.h r.v | none => false) = true := by
      intro lo
      induction lo with
      | nil => intro _; rfl
      | cons j lo ih =>
        rintro ⟨⟨q, h4, h5⟩, h6⟩
        rw [List.all_cons, h4, ih h6]
        simp only [key _ h5, Bool.and_self]
    have a2 : ∀ lo : List Nat, HiOk recs h id lo → (lo.all fun j => match recs[j]? with | some q => loadIs (.load agg x) r.x q.h' r.v | none => false) = true := by
      intro lo
      induction lo with
      | nil => intro _; rfl
      | cons j lo ih =>
        rintro ⟨⟨q, h4, h5⟩, h6⟩
        rw [List.all_cons, h4, ih h6]
        simp only [key _ h5, Bool.and_self]
    have b1 := a1 lo hlo
    have b2 := a2 hi hhi
    simp only [Bool.and_true]
    rw [Bool.or_eq_true, Bool.and_eq_true]
    exact .inr ⟨b1, b2⟩
theorem W_dnilS {D : Nat → Option MFunc} {Q : Ex → List AV → Heap → Prop} {e : List AV} {h : Heap} {full : List DI} {acc rs : List Rec} (hrev : acc.reverse = rs) (hc : CL rs full rs) (k : Q .normal e h) : W D (.dops [] full e h acc) Q := by
  subst hrev
  exact W_dnil hc k
theorem Sep.same_get {R R' : Ro} {M M' : List Hp} {h h' : Heap} {id : Nat} {o : AO} (s : Sep R M h) (s' : Sep R' M' h') (k k' : Nat) (hk : M[k]? = some [(id, o)]) (hk' : M'[k']? = some [(id, o)]) : h'.get id = h.get id := by rw [s.at1 k hk, s'.at1 k' hk']
theorem PtR.same_get {R : Ro} {M M' : List Hp} {h h' : Heap} {id o : Nat} {ch : List SV} (p : PtR R id o ch) (s : Sep R M h) (s' : Sep R M' h') : h'.get id = h.get id := by
  obtain ⟨t, kd, cs, h1, _⟩ := p
  rw [s.ro _ _ h1, s'.ro _ _ h1]

/-! ## the cells of a screen -/
structure Attr where
  f : Int
  fk : Int
  fn : Int
  bk : Int
  bn : Int
  deriving DecidableEq, Inhabited
structure Cell where
  r : Int
  w : Int
  a : Attr
  deriving DecidableEq, Inhabited
def attr0 : Attr := ⟨0, 0, 0, 0, 0⟩
def cell0 : Cell := ⟨0, 0, attr0⟩
def attrE : El Attr := ⟨5, fun a => [.int .u16 a.f, .int .u8 a.fk, .int .u32 a.fn, .int .u8 a.bk, .int .u32 a.bn], fun l => match l with | [.int _ f, .int _ fk, .int _ fn, .int _ bk, .int _ bn] => ⟨f, fk, fn, bk, bn⟩ | _ => attr0, attr0, fun _ => rfl, by decide, fun _ => rfl⟩
def cellE : El Cell := ⟨7, fun c => [.int .i32 c.r, .int .u8 c.w, .int .u16 c.a.f, .int .u8 c.a.fk, .int .u32 c.a.fn, .int .u8 c.a.bk, .int .u32 c.a.bn], fun l => match l with | [.int _ r, .int _ w, .int _ f, .int _ fk, .int _ fn, .int _ bk, .int _ bn] => ⟨r, w, f, fk, fn, bk, bn⟩ | _ => cell0, cell0, fun _ => rfl, by decide, fun _ => rfl⟩
theorem cellE_fits (c : Cell) : fits [.int .i32, .int .u8, .int .u16, .int .u8, .int .u32, .int .u8, .int .u32] (cellE.enc c) = true := rfl
theorem attrE_fits (c : Attr) : fits [.int .u16, .int .u8, .int .u32, .int .u8, .int .u32] (attrE.enc c) = true := rfl
theorem attr_eta (a : Attr) : (⟨a.f, a.fk, a.fn, a.bk, a.bn⟩ : Attr) = a := rfl
theorem cell_eta (c : Cell) : (⟨c.r, c.w, c.a⟩ : Cell) = c := rfl
theorem attr_dec (f fk fn bk bn : Int) {k1 k2 k3 k4 k5 : IntKind} : attrE.dec [.int k1 f, .int k2 fk, .int k3 fn, .int k4 bk, .int k5 bn] = ⟨f, fk, fn, bk, bn⟩ := rfl
theorem cell_dec (r w f fk fn bk bn : Int) {k1 k2 k3 k4 k5 k6 k7 : IntKind} : cellE.dec [.int k1 r, .int k2 w, .int k3 f, .int k4 fk, .int k5 fn, .int k6 bk, .int k7 bn] = ⟨r, w, f, fk, fn, bk, bn⟩ := rfl
theorem cell_back (c : Cell) : cellE.dec (cellE.enc c) = c := rfl
theorem attr_back (c : Attr) : attrE.dec (attrE.enc c) = c := rfl
theorem cellE_dflt : cellE.dflt = cell0 := rfl
def blankC (a : Attr) : Cell := ⟨32, 0, a⟩

end Go.Jx
