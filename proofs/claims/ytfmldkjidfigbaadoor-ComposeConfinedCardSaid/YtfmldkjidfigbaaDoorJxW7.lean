/-
  Walking, seventh part: steps on memory in parts; loops.
-/
import Derived.Test.YtfmldkjidfigbaaDoorJxW6
set_option linter.unusedVariables false
set_option linter.unusedSimpArgs false
namespace Go.Jx
open Go

section
variable {α : Type} {E : El α} {R R' : Ro} {v : SV} {L X : List α}

theorem El.flatMap_len (E : El α) (L : List α) : (L.flatMap E.enc).length = L.length * E.n := Go.Jx.flatMap_len E.len L

theorem getD_get? {L : List α} {j : Nat} {d : α} (h : j < L.length) : L[j]? = some (L.getD j d) := by
  rw [List.getD_eq_getElem?_getD, List.getElem?_eq_getElem h]; rfl

theorem El.readN (E : El α) {L : List α} {j : Nat} (hj : j < L.length) : readN (L.flatMap E.enc) (j * E.n) E.n = some (E.enc (L.getD j E.dflt)) := by
  rw [List.flatMap_def]
  exact readN_flatten (by intro c hc; obtain ⟨a, _, rfl⟩ := List.mem_map.1 hc; exact E.len a) (by rw [List.getElem?_map, getD_get? hj]; rfl)
theorem El.getF (E : El α) {L : List α} {j f : Nat} {s : SV} (hj : j < L.length) (hs : (E.enc (L.getD j E.dflt))[f]? = some s) : (L.flatMap E.enc)[j * E.n + f]? = some s := by
  have hf : f < E.n := by have := (List.getElem?_eq_some_iff.1 hs).1; rw [E.len] at this; exact this
  rw [flatMap_get E.len (getD_get? hj) hf, hs]

/-- A part of an element is written. -/
theorem El.write (E : El α) {L : List α} {j f : Nat} {vs : List SV} {x' : α} (hj : j < L.length) (hf : f + vs.length ≤ E.n) (hx : E.enc x' = (E.enc (L.getD j E.dflt)).take f ++ vs ++ (E.enc (L.getD j E.dflt)).drop (f + vs.length)) :
    writeN (L.flatMap E.enc) (j * E.n + f) vs = some ((L.set j x').flatMap E.enc) := by
  have hlen := E.flatMap_len L
  have hle : j * E.n + E.n ≤ L.length * E.n := by rw [← Nat.succ_mul]; exact Nat.mul_le_mul_right _ hj
  unfold writeN
  rw [if_pos (by rw [hlen]; omega)]
  congr 1
  have hsplit : L = L.take j ++ L.getD j E.dflt :: L.drop (j + 1) := by
    rw [List.getD_eq_getElem?_getD, List.getElem?_eq_getElem hj]
    simp only [Option.getD_some]
    rw [← List.drop_eq_getElem_cons hj, List.take_append_drop]
  have hset : L.set j x' = L.take j ++ x' :: L.drop (j + 1) := by
    rw [List.set_eq_take_append_cons_drop, if_pos hj]
  have h1 : ((L.take j).flatMap E.enc).length = j * E.n := by rw [E.flatMap_len, List.length_take, Nat.min_eq_left (Nat.le_of_lt hj)]
  have he := E.len (L.getD j E.dflt)
  rw [hset]
  generalize L.getD j E.dflt = y at *
  rw [hsplit]
  have htk : (L.take j ++ y :: L.drop (j + 1)).take j = L.take j := List.take_left' (by rw [List.length_take]; omega)
  have hdr : (L.take j ++ y :: L.drop (j + 1)).drop (j + 1) = L.drop (j + 1) := by
    rw [List.drop_append, List.length_take, Nat.min_eq_left (Nat.le_of_lt hj)]
    rw [List.drop_of_length_le (by rw [List.length_take]; omega)]
    simp
  rw [htk, hdr]
  simp only [List.flatMap_append, List.flatMap_cons]
  rw [hx]
  generalize (L.take j).flatMap E.enc = A at h1 ⊢
  generalize (L.drop (j + 1)).flatMap E.enc = C
  generalize E.enc y = Y at he ⊢
  have e1 : (A ++ (Y ++ C)).take (j * E.n + f) = A ++ Y.take f := by
    rw [List.take_append, List.take_of_length_le (show A.length ≤ j * E.n + f by omega), h1, show j * E.n + f - j * E.n = f by omega, List.take_append_of_le_length (by omega)]
  have e2 : (A ++ (Y ++ C)).drop (j * E.n + f + vs.length) = Y.drop (f + vs.length) ++ C := by
    rw [List.drop_append, List.drop_of_length_le (show A.length ≤ j * E.n + f + vs.length by omega), h1, show j * E.n + f + vs.length - j * E.n = f + vs.length by omega, List.drop_append_of_le_length (by omega), List.nil_append]
  rw [e1, e2]
  simp only [List.append_assoc]

theorem El.writeAll (E : El α) {L : List α} {j : Nat} {vs : List SV} (hj : j < L.length) (hx : E.enc (E.dec vs) = vs) : writeN (L.flatMap E.enc) (j * E.n) vs = some ((L.set j (E.dec vs)).flatMap E.enc) := by
  have hl : vs.length = E.n := by rw [← hx, E.len]
  have := E.write (L := L) (j := j) (f := 0) (vs := vs) (x' := E.dec vs) hj (by omega) (by
    rw [hx, hl, Nat.zero_add, List.drop_of_length_le (by rw [E.len]; exact Nat.le_refl _)]; simp)
  simpa using this

/-- Several elements are written. -/
theorem El.writeMany (E : El α) {L X : List α} {o : Nat} (h : o + X.length ≤ L.length) : writeN (L.flatMap E.enc) (o * E.n) (X.flatMap E.enc) = some ((L.take o ++ X ++ L.drop (o + X.length)).flatMap E.enc) := by
  have h1 := E.flatMap_len L
  have h2 := E.flatMap_len X
  have hle : o * E.n + X.length * E.n ≤ L.length * E.n := by rw [← Nat.add_mul]; exact Nat.mul_le_mul_right _ h
  unfold writeN
  rw [if_pos (by rw [h1, h2]; exact hle)]
  congr 1
  simp only [List.flatMap_append]
  congr 1
  · congr 1
    rw [List.flatMap_def, flatten_take (n := E.n) (by intro c hc; obtain ⟨a, _, rfl⟩ := List.mem_map.1 hc; exact E.len a), ← List.map_take]
    rfl
  · rw [h2, ← Nat.add_mul, List.flatMap_def, flatten_drop (n := E.n) (by intro c hc; obtain ⟨a, _, rfl⟩ := List.mem_map.1 hc; exact E.len a), ← List.map_drop]
    rfl

/-! ## appending -/

theorem append_own {t : TypeId} {bytes : Nat} {x : AV} {c : Hp} {M : List Hp} {h : Heap} {k : Nat} (p : OwnS E t v L c) (hne : v ≠ .eslice false) (s : Sep R M h) (hk : M[k]? = some c)
    (hx : lenA x = some X.length) (hf : firstA E.n X.length x h = some (X.flatMap E.enc)) (hr : roomA (L.length + X.length) bytes = true) :
    ∃ v' c' h', appendA t E.n bytes (.sc v) x h = some (.sc v', h') ∧ OwnS E t v' (L ++ X) c' ∧ v' ≠ .eslice false ∧ Sep R (M.set k c') h' := by
  have hX := E.flatMap_len X
  have hL := E.flatMap_len L
  have hself : M.set k c = M := by
    apply List.ext_getElem?
    intro i
    by_cases hi : i = k
    · subst hi
      have := (List.getElem?_eq_some_iff.1 hk).1
      rw [List.getElem?_set_self this, hk]
    · rw [List.getElem?_set_ne (Ne.symm hi)]
  unfold appendA
  simp only [hx, hf]
  by_cases hm : X.length = 0
  · have hX0 : X = [] := List.length_eq_zero_iff.1 hm
    subst hX0
    rw [if_pos hm, List.append_nil]
    rcases p with ⟨rfl, rfl, rfl | ⟨b, rfl⟩⟩ | ⟨id, kd, rfl, rfl, hkd⟩
    · exact ⟨_, _, _, rfl, .inl ⟨rfl, rfl, .inl rfl⟩, by simp, by rw [hself]; exact s⟩
    · exact ⟨_, _, _, rfl, .inl ⟨rfl, rfl, .inr ⟨b, rfl⟩⟩, hne, by rw [hself]; exact s⟩
    · simp only
      rw [if_pos (Nat.le_refl _)]
      exact ⟨_, _, _, rfl, .inr ⟨id, kd, rfl, rfl, hkd⟩, by simp, by rw [hself]; exact s⟩
  · rw [if_neg hm, if_neg (by rw [hX]; simp)]
    have mk : ∀ id, OwnS E t (.slice id 0 (L.length + X.length) (L.length + X.length)) (L ++ X) [(id, .cells t .grow (L.flatMap E.enc ++ X.flatMap E.enc))] := by
      intro id
      have := OwnS.one (E := E) (t := t) (id := id) (kd := .grow) (L := L ++ X) (by decide)
      rwa [List.length_append, List.flatMap_append] at this
    rcases p with ⟨rfl, rfl, rfl | ⟨b, rfl⟩⟩ | ⟨id, kd, rfl, rfl, hkd⟩
    · simp only
      unfold grownA
      rw [if_pos (roomC_of (by simpa using hr))]
      refine ⟨_, _, _, rfl, ?_, by simp, s.anew k _ hk⟩
      have := mk h.n
      simpa using this
    · cases b with
      | false => exact absurd rfl hne
      | true =>
        simp only
        unfold grownA
        rw [if_pos (roomC_of (by simpa using hr))]
        refine ⟨_, _, _, rfl, ?_, by simp, s.anew k _ hk⟩
        have := mk h.n
        simpa using this
    · have hg := s.at1 k hk
      have hold : readN (L.flatMap E.enc) 0 (L.length * E.n) = some (L.flatMap E.enc) := by
        rw [readN_some (by rw [hL]; omega), List.drop_zero, ← hL, List.take_length]
      simp only [hg]
      cases kd with
      | ro => exact absurd rfl hkd
      | own =>
        simp only
        rw [if_neg (by omega), hold]
        simp only
        unfold grownA
        rw [if_pos (roomC_of hr)]
        exact ⟨_, _, _, rfl, mk h.n, by simp, s.anew k _ hk⟩
      | grow =>
        simp only
        rw [if_pos ⟨trivial, trivial, hL.symm, hr⟩, hold]
        simp only
        refine ⟨_, _, _, rfl, mk h.n, by simp, ?_⟩
        have h1 := s.turn k .dead hk
        have h2 := h1.anew k (.cells t .grow (L.flatMap E.enc ++ X.flatMap E.enc)) (c := [(id, .dead)]) (by
          have := (List.getElem?_eq_some_iff.1 hk).1
          rw [List.getElem?_set_self this])
        rw [List.set_set, Heap.set_n] at h2
        exact h2

end

section
variable {D : Nat → Option MFunc} {Q : Ex → List AV → Heap → Prop} {e : List AV} {h : Heap} {dst : Option Nat} {r : List MI}
variable {α : Type} {E : El α} {R : Ro} {M : List Hp} {v : SV} {L X : List α} {c : Hp} {t : TypeId}

/-- A slice that is appended to. -/
def AccS (E : El α) (t : TypeId) (v : SV) (L : List α) (c : Hp) : Prop := OwnS E t v L c ∧ v ≠ .eslice false
theorem AccS.nil (t : TypeId) : AccS E t .nils [] [] := ⟨OwnS.nil t, by simp⟩
theorem AccS.now (p : AccS E t v L c) (s : Sep R M h) (hc : c ∈ M) : SlR E (Now h) v L := p.1.now s hc

theorem W_appS {bytes : Nat} {zero : List SV} {x y : Rnd} {u : SV} {m : Nat} (s : Sep R M h) (k : Nat) (hs : rd e x = .sc v) (hx : rd e y = .sc u) (p : AccS E t v L c) (hk : M[k]? = some c) (hu : SlR E (Now h) u X) (hm : m = E.n)
    (hr : 0 < bytes ∧ (4 * (L.length + X.length) + 1000) * bytes ≤ 2 ^ 48) (K : ∀ v' c' h', AccS E t v' (L ++ X) c' → Sep R (M.set k c') h' → W D (.ops r (put e dst (.sc v')) h') Q) : W D (.ops (⟨dst, .append t m bytes zero x y, none⟩ :: r) e h) Q := by
  subst hm
  obtain ⟨h1, h2⟩ := Sl.first E.len E.pos hu.sl
  obtain ⟨v', c', h', h3, h4, h5, h6⟩ := append_own p.1 p.2 s hk h1 h2 (roomA_of hr)
  refine W_act rfl (v := .sc v') (h' := h') ?_ (K v' c' h' ⟨h4, h5⟩ h6)
  show appendA t E.n bytes (rd e x) (rd e y) h = _
  rw [hs, hx]; exact h3

def decs (E : El α) : Nat → List SV → List α
  | 0, _ => []
  | k + 1, cs => E.dec (cs.take E.n) :: decs E k (cs.drop E.n)
theorem decs_length (E : El α) : ∀ (k : Nat) (cs : List SV), (decs E k cs).length = k
  | 0, _ => rfl
  | k + 1, cs => by rw [decs, List.length_cons, decs_length E k]

/-- Some are put together, and appended. -/
theorem W_appB {bytes n a : Nat} {zero cs z2 : List SV} {x : Rnd} {m : Nat} {t2 : TypeId} {sz : Nat} {parts : List (Nat × Nat × Rnd)} (E : El α) (s : Sep R M h) (k : Nat) (hf : (fillA (zerosA z2 n) (parts.map fun p => (p.1, p.2.1, rd e p.2.2))).bind normC = some cs) (hs : rd (e.set a (.sc (.slice h.n 0 n n))) x = .sc v) (hae : a < e.length)
    (p : AccS E t v L c) (hk : M[k]? = some c) (hm : m = E.n) (hcs : (decs E n cs).flatMap E.enc = cs)
    (hr : 0 < bytes ∧ (4 * (L.length + n) + 1000) * bytes ≤ 2 ^ 48) (K : ∀ g v' c' h', AccS E t v' (L ++ decs E n cs) c' → Sep R (M.set k c') h' → W D (.ops r (put (e.set a g) dst (.sc v')) h') Q) :
    W D (.ops (⟨some a, .buildSlice t2 sz n z2 parts, none⟩ :: ⟨dst, .append t m bytes zero x (.t a), none⟩ :: r) e h) Q := by
  subst hm
  refine W_buildSlice (bind_normC hf) ?_
  have hx' : rd (put e (some a) (.sc (.slice h.n 0 n n))) (.t a) = .sc (.slice h.n 0 n n) := by
    show (e.set a _).getD a undefA = _
    rw [List.getD_eq_getElem?_getD, List.getElem?_set_self hae]; rfl
  have s2 := s.push (.cells t2 .own cs)
  have hg := Heap.get_push_new h (.cells t2 .own cs)
  have hu : SlR E (Now (h.push (.cells t2 .own cs))) (.slice h.n 0 n n) (decs E n cs) := by
    have := Sl.wholeE (E := E) (L := decs E n cs) (t := t2) (kd := .own) (id := h.n) (h := h.push (.cells t2 .own cs)) (by rw [hcs]; exact hg)
    rw [decs_length] at this
    exact this
  refine W_appS s2 (k + 1) hs hx' p (by simpa using hk) hu rfl (by rw [decs_length]; exact hr) ?_
  intro v' c' h' h1 h2
  have h3 := h2.drop 0
  simp only [List.set_cons_succ, List.eraseIdx_zero, List.tail_cons] at h3
  exact K _ _ _ _ h1 h3

theorem zerosA_flatMap (E : El α) {z : List SV} (hz : E.enc (E.dec z) = z) (n : Nat) : zerosA z n = (List.replicate n (E.dec z)).flatMap E.enc := by
  induction n with
  | zero => rfl
  | succ n ih => rw [zerosA, ih, List.replicate_succ, List.flatMap_cons, hz]

/-- New slices. -/
theorem W_makeS {bytes : Nat} {zero : List SV} {x y : Rnd} {m : Nat} {j : Int} {kd kd' : IntKind} (E : El α) (s : Sep R M h) (hx : rd e x = .sc (.int kd j)) (hy : rd e y = .sc (.int kd' j)) (hj : 0 ≤ j) (hb : bytes * j.toNat ≤ 2 ^ 48 ∧ j ≤ 9223372036854775807) (hz : E.enc (E.dec zero) = zero)
    (K : ∀ id h', Sep R ([(id, .cells t .own ((List.replicate j.toNat (E.dec zero)).flatMap E.enc))] :: M) h' → W D (.ops r (put e dst (.sc (.slice id 0 j.toNat j.toNat))) h') Q) : W D (.ops (⟨dst, .makeSlice t m bytes zero x y, none⟩ :: r) e h) Q := by
  refine W_act rfl (v := .sc (.slice h.n 0 j.toNat j.toNat)) (h' := h.push (.cells t .own (zerosA zero j.toNat))) ?_ ?_
  · show (match natA (rd e x), natA (rd e y) with
      | some l, some c => if l ≤ c ∧ bytes * c ≤ 2 ^ 48 ∧ (c : Int) ≤ IntKind.i64.max then some (AV.sc (.slice h.n 0 l c), h.push (.cells t .own (zerosA zero c))) else none
      | _, _ => none) = _
    rw [hx, hy]
    simp only [natA, if_pos hj]
    rw [if_pos ⟨Nat.le_refl _, hb.1, by rw [Int.toNat_of_nonneg hj]; exact hb.2⟩]
  · rw [zerosA_flatMap E hz]
    exact K _ _ (s.push _)

/-- Elements put together. -/
theorem W_buildS {n : Nat} {cs z2 : List SV} {sz : Nat} {parts : List (Nat × Nat × Rnd)} (E : El α) (s : Sep R M h) (hf : (fillA (zerosA z2 n) (parts.map fun p => (p.1, p.2.1, rd e p.2.2))).bind normC = some cs) (hcs : (decs E n cs).flatMap E.enc = cs)
    (K : ∀ v' c' h', OwnS E t v' (decs E n cs) c' → v' = .slice h.n 0 n n → Sep R (c' :: M) h' → W D (.ops r (put e dst (.sc v')) h') Q) :
    W D (.ops (⟨dst, .buildSlice t sz n z2 parts, none⟩ :: r) e h) Q := by
  refine W_buildSlice (bind_normC hf) ?_
  refine K _ _ _ ?_ rfl (s.push (.cells t .own cs))
  have := OwnS.one (E := E) (t := t) (id := h.n) (kd := .own) (L := decs E n cs) (by decide)
  rwa [decs_length, hcs] at this

theorem W_allocS {z : List SV} (s : Sep R M h) (K : ∀ id h', Sep R ([(id, .cells t .own z)] :: M) h' → W D (.ops r (put e dst (.sc (.ptr id 0))) h') Q) : W D (.ops (⟨dst, .alloc t z, none⟩ :: r) e h) Q :=
  W_alloc (K _ _ (s.push _))
theorem W_boxS {x : Rnd} {a : AV} {cs : List SV} (s : Sep R M h) (hx : rd e x = a) (hc : cellsOfAV a = some cs) (K : ∀ id h', Sep R ([(id, .cells t .own cs)] :: M) h' → W D (.ops r (put e dst (.sc (.ptr id 0))) h') Q) : W D (.ops (⟨dst, .box t x, none⟩ :: r) e h) Q :=
  W_act rfl (v := .sc (.ptr h.n 0)) (h' := h.push (.cells t .own cs)) (by show (cellsOfAV (rd e x)).map _ = _; rw [hx, hc]; rfl) (K _ _ (s.push _))

/-! ## what is only read -/

def PtR (R : Ro) (id o : Nat) (ch : List SV) : Prop := ∃ t kd cs, R id (.cells t kd cs) ∧ readN cs o ch.length = some ch
theorem PtR.here {id o : Nat} {ch : List SV} (s : Sep R M h) (p : PtR R id o ch) : Pt h id o ch := by
  obtain ⟨t, kd, cs, h1, h2⟩ := p
  exact ⟨t, kd, cs, s.ro _ _ h1, h2⟩

theorem W_lenR {x : Rnd} (s : Sep R M h) (hx : rd e x = .sc v) (hv : SlR E R v L) (k : W D (.ops r (put e dst (.sc (.int .i64 (L.length : Int)))) h) Q) : W D (.ops (⟨dst, .lenSlice x, none⟩ :: r) e h) Q :=
  W_lenSl (hv.here s) hx k
theorem W_lenO {x : Rnd} (hx : rd e x = .sc v) (hv : OwnS E t v L c) (k : W D (.ops r (put e dst (.sc (.int .i64 (L.length : Int)))) h) Q) : W D (.ops (⟨dst, .lenSlice x, none⟩ :: r) e h) Q := by
  refine W_act rfl (v := .sc (.int .i64 (L.length : Int))) (h' := h) ?_ k
  show (match rd e x with | .sc .nils => some (AV.sc (.int .i64 0)) | .sc (.eslice _) => some (AV.sc (.int .i64 0)) | .sc (.slice _ _ len _) => some (AV.sc (.int .i64 len)) | _ => none).map _ = _
  rw [hx]
  rcases hv with ⟨rfl, _, rfl | ⟨b, rfl⟩⟩ | ⟨id, kd, rfl, _⟩ <;> rfl
theorem W_lenA {x : Rnd} (hx : rd e x = .sc v) (hv : AccS E t v L c) (k : W D (.ops r (put e dst (.sc (.int .i64 (L.length : Int)))) h) Q) : W D (.ops (⟨dst, .lenSlice x, none⟩ :: r) e h) Q := W_lenO hx hv.1 k
theorem W_lenS {x : Rnd} {id off len cap : Nat} (hx : rd e x = .sc (.slice id off len cap)) (k : W D (.ops r (put e dst (.sc (.int .i64 (len : Int)))) h) Q) : W D (.ops (⟨dst, .lenSlice x, none⟩ :: r) e h) Q := by
  refine W_act rfl (v := .sc (.int .i64 (len : Int))) (h' := h) ?_ k
  show (match rd e x with | .sc .nils => some (AV.sc (.int .i64 0)) | .sc (.eslice _) => some (AV.sc (.int .i64 0)) | .sc (.slice _ _ len _) => some (AV.sc (.int .i64 len)) | _ => none).map _ = _
  rw [hx]; rfl

theorem W_indexR {x i : Rnd} {kd : IntKind} {j : Int} {m : Nat} (hx : rd e x = .sc v) (hi : rd e i = .sc (.int kd j)) (hv : SlR E R v L) (hm : m = E.n) (hj : 0 ≤ j ∧ j < (L.length : Int))
    (k : ∀ id o, PtR R id o (E.enc (L.getD j.toNat E.dflt)) → W D (.ops r (put e dst (.sc (.ptr id o))) h) Q) : W D (.ops (⟨dst, .indexSlice m x i, none⟩ :: r) e h) Q := by
  subst hm
  rcases hv with ⟨rfl, _⟩ | ⟨id, off, cap, t, kd', cs, rfl, h2, h3, h4⟩
  · simp at hj; omega
  · refine W_indexSlice hx hi hj (k _ _ ⟨t, kd', cs, h3, ?_⟩)
    rw [E.len]
    exact h4 _ _ (getD_get? (by omega))
theorem W_loadR {x : Rnd} {id o : Nat} {ch : List SV} {q : SV} (s : Sep R M h) (hx : rd e x = .sc (.ptr id o)) (hp : PtR R id o ch) (hc : ch[0]? = some q) (k : W D (.ops r (put e dst (.sc q)) h) Q) : W D (.ops (⟨dst, .load none x, none⟩ :: r) e h) Q :=
  W_loadPt0 (hp.here s) hx hc k
theorem W_loadRF {x : Rnd} {id o f : Nat} {ch : List SV} {q : SV} (s : Sep R M h) (hx : rd e x = .sc (.ptr id (o + f))) (hp : PtR R id o ch) (hc : ch[f]? = some q) (k : W D (.ops r (put e dst (.sc q)) h) Q) : W D (.ops (⟨dst, .load none x, none⟩ :: r) e h) Q :=
  W_loadPt (hp.here s) hx hc k
theorem W_loadRA {x : Rnd} {id o m : Nat} {ch : List SV} (s : Sep R M h) (hx : rd e x = .sc (.ptr id o)) (hp : PtR R id o ch) (hm : ch.length = m) (k : W D (.ops r (put e dst (.agg ch)) h) Q) : W D (.ops (⟨dst, .load (some m) x, none⟩ :: r) e h) Q :=
  W_loadPtAgg (hp.here s) hx hm k
/-- A part of an element that is only read, several cells. -/
theorem W_loadRP {x : Rnd} {id o f m : Nat} {ch vs : List SV} (s : Sep R M h) (hx : rd e x = .sc (.ptr id (o + f))) (hp : PtR R id o ch) (hc : readN ch f m = some vs) (k : W D (.ops r (put e dst (.agg vs)) h) Q) : W D (.ops (⟨dst, .load (some m) x, none⟩ :: r) e h) Q := by
  obtain ⟨t, kd, cs, h1, h2⟩ := hp
  refine W_load_agg hx (s.ro _ _ h1) ?_ k
  obtain ⟨h3, h4⟩ := readN_spec h2
  obtain ⟨h5, h6⟩ := readN_spec hc
  have hle : f + m ≤ ch.length := by
    unfold readN at hc
    split at hc
    · assumption
    · cases hc
  refine readN_of h5 (fun i hi => ?_) (fun hz => ?_)
  · rw [← h6 i hi, ← h4 (f + i) (by omega)]
    congr 1
    omega
  · have : o + ch.length ≤ cs.length := by
      unfold readN at h2
      split at h2
      · assumption
      · cases h2
    omega

theorem W_sliceR {x a b : Rnd} {i j : Int} {m : Nat} (hx : rd e x = .sc v) (ha : rd e a = .sc (.int .i64 i)) (hb : rd e b = .sc (.int .i64 j)) (hv : SlR E R v L) (hm : m = E.n) (hij : 0 ≤ i ∧ i ≤ j ∧ j ≤ L.length)
    (k : ∀ v', SlR E R v' ((L.take j.toNat).drop i.toNat) → W D (.ops r (put e dst (.sc v')) h) Q) : W D (.ops (⟨dst, .slice m x (some a) (some b), none⟩ :: r) e h) Q := by
  subst hm
  obtain ⟨v', h1, h2⟩ := hv.cut (lo := i.toNat) (hi := j.toNat) (by omega) (by omega)
  refine W_act rfl (v := .sc v') (h' := h) ?_ (k v' h2)
  show (sliceA E.n (rd e x) (some (rd e a)) (some (rd e b))).map _ = _
  rw [hx, ha, hb]
  rw [Int.toNat_of_nonneg (by omega), Int.toNat_of_nonneg (by omega)] at h1
  rw [h1]; rfl
theorem W_sliceRTo {x b : Rnd} {j : Int} {m : Nat} (hx : rd e x = .sc v) (hb : rd e b = .sc (.int .i64 j)) (hv : SlR E R v L) (hm : m = E.n) (hij : 0 ≤ j ∧ j ≤ L.length)
    (k : ∀ v', SlR E R v' (L.take j.toNat) → W D (.ops r (put e dst (.sc v')) h) Q) : W D (.ops (⟨dst, .slice m x none (some b), none⟩ :: r) e h) Q := by
  subst hm
  obtain ⟨v', h1, h2⟩ := hv.cut (lo := 0) (hi := j.toNat) (by omega) (by omega)
  refine W_act rfl (v := .sc v') (h' := h) ?_ (k v' (by simpa using h2))
  show (sliceA E.n (rd e x) none (some (rd e b))).map _ = _
  rw [hx, hb]
  rw [Int.toNat_of_nonneg (by omega)] at h1
  have : sliceA E.n (.sc v) none (some (.sc (.int .i64 j))) = sliceA E.n (.sc v) (some (.sc (.int .i64 ((0 : Nat) : Int)))) (some (.sc (.int .i64 j))) := by
    unfold sliceA; simp only [boundsA_hi]; rfl
  rw [this, h1]; rfl
theorem W_sliceRFrom {x a : Rnd} {i : Int} {m : Nat} (hx : rd e x = .sc v) (ha : rd e a = .sc (.int .i64 i)) (hv : SlR E R v L) (hm : m = E.n) (hij : 0 ≤ i ∧ i ≤ L.length)
    (k : ∀ v', SlR E R v' (L.drop i.toNat) → W D (.ops r (put e dst (.sc v')) h) Q) : W D (.ops (⟨dst, .slice m x (some a) none, none⟩ :: r) e h) Q := by
  subst hm
  obtain ⟨v', h1, h2⟩ := hv.cut (lo := i.toNat) (hi := L.length) (by omega) (Nat.le_refl _)
  refine W_act rfl (v := .sc v') (h' := h) ?_ (k v' (by simpa using h2))
  show (sliceA E.n (rd e x) (some (rd e a)) none).map _ = _
  rw [hx, ha]
  rw [Int.toNat_of_nonneg (by omega)] at h1
  have : sliceA E.n (.sc v) (some (.sc (.int .i64 i))) none = sliceA E.n (.sc v) (some (.sc (.int .i64 i))) (some (.sc (.int .i64 (L.length : Int)))) := by
    rcases hv with ⟨rfl, rfl | ⟨b, rfl⟩⟩ | ⟨id, off, cap, t, kd, cs, rfl, _⟩ <;> (unfold sliceA; simp only [boundsA_lo]) <;> rfl
  rw [this, h1]; rfl

/-! ## one's own -/

theorem W_indexO {x i : Rnd} {id len cap m : Nat} {kd : IntKind} {j : Int} (hx : rd e x = .sc (.slice id 0 len cap)) (hi : rd e i = .sc (.int kd j)) (hn : 0 ≤ j ∧ j < (len : Int))
    (k : W D (.ops r (put e dst (.sc (.ptr id (j.toNat * m)))) h) Q) : W D (.ops (⟨dst, .indexSlice m x i, none⟩ :: r) e h) Q :=
  W_indexSlice hx hi hn (by rw [Nat.zero_add]; exact k)
theorem W_indexV {x i : Rnd} {id o len cap m : Nat} {kd : IntKind} {j : Int} (hx : rd e x = .sc (.slice id (o * m) len cap)) (hi : rd e i = .sc (.int kd j)) (hn : 0 ≤ j ∧ j < (len : Int))
    (k : W D (.ops r (put e dst (.sc (.ptr id ((o + j.toNat) * m)))) h) Q) : W D (.ops (⟨dst, .indexSlice m x i, none⟩ :: r) e h) Q :=
  W_indexSlice hx hi hn (by rw [← Nat.add_mul]; exact k)

theorem W_loadO {x : Rnd} {id J m : Nat} {kd : Kind} {q : SV} (s : Sep R M h) (k : Nat) (hx : rd e x = .sc (.ptr id (J * m))) (hk : M[k]? = some [(id, .cells t kd (L.flatMap E.enc))]) (hm : m = E.n) (hJ : J < L.length) (hq : (E.enc (L.getD J E.dflt))[0]? = some q) (K : W D (.ops r (put e dst (.sc q)) h) Q) :
    W D (.ops (⟨dst, .load none x, none⟩ :: r) e h) Q := by
  subst hm
  exact W_load_sc hx (s.at1 k hk) (by have := E.getF hJ hq; rwa [Nat.add_zero] at this) K
theorem W_loadOF {x : Rnd} {id J m f : Nat} {kd : Kind} {q : SV} (s : Sep R M h) (k : Nat) (hx : rd e x = .sc (.ptr id (J * m + f))) (hk : M[k]? = some [(id, .cells t kd (L.flatMap E.enc))]) (hm : m = E.n) (hJ : J < L.length) (hq : (E.enc (L.getD J E.dflt))[f]? = some q) (K : W D (.ops r (put e dst (.sc q)) h) Q) :
    W D (.ops (⟨dst, .load none x, none⟩ :: r) e h) Q := by
  subst hm
  exact W_load_sc hx (s.at1 k hk) (E.getF hJ hq) K
theorem W_loadOA {x : Rnd} {id J m : Nat} {kd : Kind} (s : Sep R M h) (k : Nat) (hx : rd e x = .sc (.ptr id (J * m))) (hk : M[k]? = some [(id, .cells t kd (L.flatMap E.enc))]) (hm : m = E.n) (hJ : J < L.length) (K : W D (.ops r (put e dst (.agg (E.enc (L.getD J E.dflt)))) h) Q) :
    W D (.ops (⟨dst, .load (some m) x, none⟩ :: r) e h) Q := by
  subst hm
  exact W_load_agg hx (s.at1 k hk) (E.readN hJ) K
theorem readN_part {cs ch vs : List SV} {o f m : Nat} (h2 : readN cs o ch.length = some ch) (hc : readN ch f m = some vs) : readN cs (o + f) m = some vs := by
  obtain ⟨h3, h4⟩ := readN_spec h2
  obtain ⟨h5, h6⟩ := readN_spec hc
  have hle : f + m ≤ ch.length := by
    unfold readN at hc
    split at hc
    · assumption
    · cases hc
  refine readN_of h5 (fun i hi => ?_) (fun hz => ?_)
  · rw [← h6 i hi, ← h4 (f + i) (by omega)]
    congr 1
    omega
  · have : o + ch.length ≤ cs.length := by
      unfold readN at h2
      split at h2
      · assumption
      · cases h2
    omega
theorem W_loadOP {x : Rnd} {id J m f mm : Nat} {kd : Kind} {vs : List SV} (s : Sep R M h) (k : Nat) (hx : rd e x = .sc (.ptr id (J * m + f))) (hk : M[k]? = some [(id, .cells t kd (L.flatMap E.enc))]) (hm : m = E.n) (hJ : J < L.length) (hq : (readN (E.enc (L.getD J E.dflt)) f mm).bind normC = some vs) (K : W D (.ops r (put e dst (.agg vs)) h) Q) :
    W D (.ops (⟨dst, .load (some mm) x, none⟩ :: r) e h) Q := by
  subst hm
  exact W_load_agg hx (s.at1 k hk) (readN_part (by rw [E.len]; exact E.readN hJ) (bind_normC hq)) K

/-- A whole element is written. -/
theorem W_storeO {x y : Rnd} {id J m : Nat} {kd : Kind} {a : AV} {vs : List SV} (s : Sep R M h) (k : Nat) (hx : rd e x = .sc (.ptr id (J * m))) (hk : M[k]? = some [(id, .cells t kd (L.flatMap E.enc))]) (hy : rd e y = a) (hv : cellsOfAV a = some vs) (hm : m = E.n) (hJ : J < L.length) (hkd : kd ≠ .ro) (hx' : E.enc (E.dec vs) = vs)
    (K : ∀ h', Sep R (M.set k [(id, .cells t kd ((L.set J (E.dec vs)).flatMap E.enc))]) h' → W D (.ops r (put e dst undefA) h') Q) : W D (.ops (⟨dst, .store m x y, none⟩ :: r) e h) Q := by
  subst hm
  have hl : vs.length = E.n := by rw [← hx', E.len]
  exact W_store hx hy hv (s.at1 k hk) hkd hl (E.writeAll hJ hx') (K _ (s.turn k _ hk))
/-- One cell, or several, of an element are written. -/
theorem W_storeOF {x y : Rnd} {id J m f mm : Nat} {kd : Kind} {a : AV} {vs us : List SV} (s : Sep R M h) (k : Nat) (hx : rd e x = .sc (.ptr id (J * m + f))) (hk : M[k]? = some [(id, .cells t kd (L.flatMap E.enc))]) (hy : rd e y = a) (hv : cellsOfAV a = some vs) (hm : m = E.n) (hJ : J < L.length) (hkd : kd ≠ .ro) (hfn : Nat.ble f E.n = true) (hn : vs.length = mm)
    (hus : normC ((E.enc (L.getD J E.dflt)).take f ++ vs ++ (E.enc (L.getD J E.dflt)).drop (f + vs.length)) = some us) (hx' : E.enc (E.dec us) = us)
    (K : ∀ h', Sep R (M.set k [(id, .cells t kd ((L.set J (E.dec us)).flatMap E.enc))]) h' → W D (.ops r (put e dst undefA) h') Q) : W D (.ops (⟨dst, .store mm x y, none⟩ :: r) e h) Q := by
  subst hm
  rw [normC_eq] at hus
  have hus' := Option.some.inj hus
  have hl : us.length = E.n := by rw [← hx', E.len]
  have hf : f + vs.length ≤ E.n := by
    have hfn := Nat.le_of_ble_eq_true hfn
    have := congrArg List.length hus'
    simp only [List.length_append, List.length_take, List.length_drop, E.len] at this
    omega
  exact W_store hx hy hv (s.at1 k hk) hkd hn (E.write hJ hf (by rw [hx', hus'])) (K _ (s.turn k _ hk))

/-- An object of one's own whose cells are spelt. -/
theorem W_loadC {x : Rnd} {id off : Nat} {kd : Kind} {cs : List SV} {q : SV} (s : Sep R M h) (k : Nat) (hx : rd e x = .sc (.ptr id off)) (hk : M[k]? = some [(id, .cells t kd cs)]) (hq : cs[off]? = some q) (K : W D (.ops r (put e dst (.sc q)) h) Q) :
    W D (.ops (⟨dst, .load none x, none⟩ :: r) e h) Q := W_load_sc hx (s.at1 k hk) hq K
theorem W_loadCA {x : Rnd} {id off n : Nat} {kd : Kind} {cs vs : List SV} (s : Sep R M h) (k : Nat) (hx : rd e x = .sc (.ptr id off)) (hk : M[k]? = some [(id, .cells t kd cs)]) (hq : (readN cs off n).bind normC = some vs) (K : W D (.ops r (put e dst (.agg vs)) h) Q) :
    W D (.ops (⟨dst, .load (some n) x, none⟩ :: r) e h) Q := W_load_agg hx (s.at1 k hk) (bind_normC hq) K
theorem W_storeC {size : Nat} {x y : Rnd} {id off : Nat} {kd : Kind} {cs cs' vs : List SV} {a : AV} (s : Sep R M h) (k : Nat) (hx : rd e x = .sc (.ptr id off)) (hk : M[k]? = some [(id, .cells t kd cs)]) (hy : rd e y = a) (hv : cellsOfAV a = some vs) (hkd : kd ≠ .ro) (hn : vs.length = size)
    (hc : (writeN cs off vs).bind normC = some cs') (K : ∀ h', Sep R (M.set k [(id, .cells t kd cs')]) h' → W D (.ops r (put e dst undefA) h') Q) : W D (.ops (⟨dst, .store size x y, none⟩ :: r) e h) Q :=
  W_store hx hy hv (s.at1 k hk) hkd hn (bind_normC hc) (K _ (s.turn k _ hk))

/-- A place in one's own slice, from a column on. -/
def VwO (m : Nat) (id o len : Nat) (v : SV) : Prop := (len = 0 ∧ (v = .nils ∨ ∃ b, v = .eslice b)) ∨ ∃ cap, v = .slice id (o * m) len cap ∧ len ≤ cap
theorem VwO.sl {id o len : Nat} {kd : Kind} (p : VwO E.n id o len v) (hg : h.get id = some (.cells t kd (L.flatMap E.enc))) (hl : o + len ≤ L.length) : Sl E.enc E.n h v ((L.drop o).take len) := by
  rcases p with ⟨rfl, hv⟩ | ⟨cap, rfl, hc⟩
  · exact .inl ⟨by simp, hv⟩
  · have hlen : ((L.drop o).take len).length = len := by rw [List.length_take, List.length_drop]; omega
    refine .inr ⟨id, o * E.n, cap, t, kd, _, by rw [hlen], by rw [hlen]; exact hc, hg, fun i x hx => ?_⟩
    have hi : i < len := by have := (List.getElem?_eq_some_iff.1 hx).1; omega
    rw [List.getElem?_take_of_lt hi, List.getElem?_drop] at hx
    rw [← Nat.add_mul, List.flatMap_def]
    exact readN_flatten (by intro c hc; obtain ⟨a, _, rfl⟩ := List.mem_map.1 hc; exact E.len a) (by rw [List.getElem?_map, hx]; rfl)
theorem VwO.whole {id n : Nat} {m : Nat} : VwO m id 0 n (.slice id 0 n n) := .inr ⟨n, by rw [Nat.zero_mul], Nat.le_refl _⟩

theorem boundsA_both {len cap : Nat} {i j : Int} (h : 0 ≤ i ∧ i ≤ j ∧ j ≤ cap) : boundsA len cap (some (.sc (.int .i64 i))) (some (.sc (.int .i64 j))) = some (i.toNat, j.toNat) := by
  unfold boundsA
  simp only [natA]
  rw [if_pos (by omega), if_pos (by omega)]
  simp only
  rw [if_pos (by omega)]

theorem sliceA_vw {m id o len cap : Nat} {i j : Int} (hcap : len ≤ cap) (h : 0 ≤ i ∧ i ≤ j ∧ j ≤ cap) : ∃ v', sliceA m (.sc (.slice id (o * m) len cap)) (some (.sc (.int .i64 i))) (some (.sc (.int .i64 j))) = some (.sc v') ∧ VwO m id (o + i.toNat) (j.toNat - i.toNat) v' := by
  unfold sliceA
  simp only [boundsA_both h]
  by_cases hl : i.toNat = cap ∧ 0 < cap
  · rw [if_pos hl]
    exact ⟨_, rfl, .inl ⟨by omega, .inr ⟨false, rfl⟩⟩⟩
  · rw [if_neg hl]
    exact ⟨_, rfl, .inr ⟨_, by rw [Nat.add_mul], by omega⟩⟩

theorem W_sliceO {x a b : Rnd} {i j : Int} {m id o len cap : Nat} (hx : rd e x = .sc (.slice id (o * m) len cap)) (ha : rd e a = .sc (.int .i64 i)) (hb : rd e b = .sc (.int .i64 j)) (hcap : len ≤ cap) (hij : 0 ≤ i ∧ i ≤ j ∧ j ≤ cap)
    (k : ∀ v', VwO m id (o + i.toNat) (j.toNat - i.toNat) v' → W D (.ops r (put e dst (.sc v')) h) Q) : W D (.ops (⟨dst, .slice m x (some a) (some b), none⟩ :: r) e h) Q := by
  obtain ⟨v', h1, h2⟩ := sliceA_vw (m := m) (id := id) (o := o) (len := len) hcap hij
  refine W_act rfl (v := .sc v') (h' := h) ?_ (k v' h2)
  show (sliceA m (rd e x) (some (rd e a)) (some (rd e b))).map _ = _
  rw [hx, ha, hb, h1]; rfl
theorem W_sliceO0 {x a b : Rnd} {i j : Int} {m id len cap : Nat} (hx : rd e x = .sc (.slice id 0 len cap)) (ha : rd e a = .sc (.int .i64 i)) (hb : rd e b = .sc (.int .i64 j)) (hcap : len ≤ cap) (hij : 0 ≤ i ∧ i ≤ j ∧ j ≤ cap)
    (k : ∀ v', VwO m id i.toNat (j.toNat - i.toNat) v' → W D (.ops r (put e dst (.sc v')) h) Q) : W D (.ops (⟨dst, .slice m x (some a) (some b), none⟩ :: r) e h) Q :=
  W_sliceO (o := 0) (by rw [Nat.zero_mul]; exact hx) ha hb hcap hij (by rw [Nat.zero_add]; exact k)
theorem W_sliceO0To {x b : Rnd} {j : Int} {m id len cap : Nat} (hx : rd e x = .sc (.slice id 0 len cap)) (hb : rd e b = .sc (.int .i64 j)) (hcap : len ≤ cap) (hij : 0 ≤ j ∧ j ≤ cap)
    (k : ∀ v', VwO m id 0 j.toNat v' → W D (.ops r (put e dst (.sc v')) h) Q) : W D (.ops (⟨dst, .slice m x none (some b), none⟩ :: r) e h) Q := by
  obtain ⟨v', h1, h2⟩ := sliceA_vw (m := m) (id := id) (o := 0) (len := len) (i := 0) (j := j) hcap ⟨by omega, hij.1, hij.2⟩
  refine W_act rfl (v := .sc v') (h' := h) ?_ (k v' (by simpa using h2))
  show (sliceA m (rd e x) none (some (rd e b))).map _ = _
  rw [hx, hb]
  have : sliceA m (.sc (.slice id 0 len cap)) none (some (.sc (.int .i64 j))) = sliceA m (.sc (.slice id 0 len cap)) (some (.sc (.int .i64 0))) (some (.sc (.int .i64 j))) := by
    unfold sliceA; simp only [boundsA_hi]
  rw [Nat.zero_mul] at h1
  rw [this, h1]; rfl
theorem W_sliceO0From {x a : Rnd} {i : Int} {m id len cap : Nat} (hx : rd e x = .sc (.slice id 0 len cap)) (ha : rd e a = .sc (.int .i64 i)) (hcap : len ≤ cap) (hij : 0 ≤ i ∧ i ≤ len)
    (k : ∀ v', VwO m id i.toNat (len - i.toNat) v' → W D (.ops r (put e dst (.sc v')) h) Q) : W D (.ops (⟨dst, .slice m x (some a) none, none⟩ :: r) e h) Q := by
  obtain ⟨v', h1, h2⟩ := sliceA_vw (m := m) (id := id) (o := 0) (len := len) (i := i) (j := len) hcap ⟨by omega, by omega, by omega⟩
  refine W_act rfl (v := .sc v') (h' := h) ?_ (k v' (by simpa using h2))
  show (sliceA m (rd e x) (some (rd e a)) none).map _ = _
  rw [hx, ha]
  have : sliceA m (.sc (.slice id 0 len cap)) (some (.sc (.int .i64 i))) none = sliceA m (.sc (.slice id 0 len cap)) (some (.sc (.int .i64 i))) (some (.sc (.int .i64 (len : Int)))) := by
    unfold sliceA; simp only [boundsA_lo]
  rw [Nat.zero_mul] at h1
  rw [this, h1]; rfl

/-- Elements are copied into a place of one's own. -/
theorem W_copyV {x y : Rnd} {id o dl m : Nat} {kd : Kind} {u w : SV} (s : Sep R M h) (k : Nat) (hx : rd e x = .sc w) (hy : rd e y = .sc u) (hw : VwO m id o dl w) (hk : M[k]? = some [(id, .cells t kd (L.flatMap E.enc))]) (hkd : kd ≠ .ro) (hm : m = E.n) (hol : o + dl ≤ L.length) (hu : SlR E (Now h) u X)
    (K : ∀ h', Sep R (M.set k [(id, .cells t kd ((L.take o ++ X.take dl ++ L.drop (o + min X.length dl)).flatMap E.enc))]) h' → W D (.ops r (put e dst (.sc (.int .i64 (min X.length dl : Nat)))) h') Q) : W D (.ops (⟨dst, .copy m x y, none⟩ :: r) e h) Q := by
  subst hm
  have hself : ∀ {c : Hp}, M[k]? = some c → M.set k c = M := by
    intro c hk
    apply List.ext_getElem?
    intro i
    by_cases hi : i = k
    · subst hi
      have := (List.getElem?_eq_some_iff.1 hk).1
      rw [List.getElem?_set_self this, hk]
    · rw [List.getElem?_set_ne (Ne.symm hi)]
  have hlen : lenA (.sc u) = some X.length := (Sl.first E.len E.pos hu.sl).1
  rcases hw with ⟨rfl, hv⟩ | ⟨cap, rfl, hc⟩
  · have key : copyA E.n (.sc w) (.sc u) h = some (.sc (.int .i64 0), h) := by
      unfold copyA
      rw [hlen]
      rcases hv with rfl | ⟨b, rfl⟩ <;> rfl
    refine W_act rfl (v := .sc (.int .i64 (min X.length 0 : Nat))) (h' := h) ?_ (K h ?_)
    · show copyA E.n (rd e x) (rd e y) h = _
      rw [hx, hy, key]; simp
    · have : L.take o ++ X.take 0 ++ L.drop (o + min X.length 0) = L := by simp
      rw [this, hself hk]; exact s
  · have hg := s.at1 k hk
    have hmin : min X.length dl = (X.take dl).length := by rw [List.length_take]; exact Nat.min_comm _ _
    have hfirst : firstA E.n (Nat.min X.length dl) (.sc u) h = some ((X.take dl).flatMap E.enc) := by
      rcases hu with ⟨rfl, rfl | ⟨b, rfl⟩⟩ | ⟨id', off, cap', t', kd', cs, rfl, h2, h3, h4⟩
      · simp [firstA]
      · simp [firstA]
      · unfold firstA
        simp only
        rw [show Nat.min X.length dl = (X.take dl).length from hmin]
        by_cases hz : (X.take dl).length = 0
        · rw [hz, Nat.zero_mul, if_pos rfl]
          rw [List.length_eq_zero_iff.1 hz]; rfl
        · have hn := E.pos
          rw [if_neg (by have := Nat.mul_pos (Nat.pos_of_ne_zero hz) hn; omega)]
          have h3' : h.get id' = some (.cells t' kd' cs) := h3
          rw [h3']
          refine readN_all E.len E.pos (fun i x hx => h4 i x ?_) (Nat.pos_of_ne_zero hz)
          have hi : i < dl := by have := (List.getElem?_eq_some_iff.1 hx).1; rw [List.length_take] at this; omega
          rw [List.getElem?_take_of_lt hi] at hx; exact hx
    have hwr := E.writeMany (L := L) (X := X.take dl) (o := o) (by rw [List.length_take]; omega)
    have key : ∃ h', copyA E.n (.sc (.slice id (o * E.n) dl cap)) (.sc u) h = some (.sc (.int .i64 (min X.length dl : Nat)), h') ∧ Sep R (M.set k [(id, .cells t kd ((L.take o ++ X.take dl ++ L.drop (o + min X.length dl)).flatMap E.enc))]) h' := by
      unfold copyA
      rw [hlen]
      simp only [hfirst]
      by_cases hz : (X.take dl).flatMap E.enc = []
      · rw [if_pos hz]
        refine ⟨h, rfl, ?_⟩
        have h0 : (X.take dl).length = 0 := by
          have := congrArg List.length hz
          rw [E.flatMap_len, List.length_nil] at this
          have hp := E.pos
          rcases Nat.mul_eq_zero.1 this with h | h
          · exact h
          · omega
        have : L.take o ++ X.take dl ++ L.drop (o + min X.length dl) = L := by
          rw [hmin, h0, List.length_eq_zero_iff.1 h0]; simp
        rw [this, hself hk]; exact s
      · rw [if_neg hz, hg]
        simp only
        rw [if_neg hkd, hwr]
        refine ⟨_, rfl, ?_⟩
        rw [← hmin]
        exact s.turn k _ hk
    obtain ⟨h', h1, h2⟩ := key
    refine W_act rfl (v := .sc (.int .i64 (min X.length dl : Nat))) (h' := h') ?_ (K h' h2)
    show copyA E.n (rd e x) (rd e y) h = _
    rw [hx, hy, h1]

end

/-! ## calls that turn one's own -/
theorem Sep.front {R : Ro} {M : List Hp} {h : Heap} (s : Sep R M h) (k : Nat) {c : Hp} (hk : M[k]? = some c) : Sep R (c :: M.eraseIdx k) h := by
  refine s.perm ?_
  induction M generalizing k with
  | nil => simp at hk
  | cons d M ih =>
    cases k with
    | zero => simp at hk; subst hk; exact List.Perm.refl _
    | succ k =>
      simp only [List.eraseIdx_cons_succ, List.flatten_cons]
      have hk' : M[k]? = some c := by simpa using hk
      have := ih (s := s.sublist (by simp)) k hk'
      exact (List.Perm.append_left d this).trans (by
        simp only [List.flatten_cons]
        rw [← List.append_assoc, ← List.append_assoc]
        exact List.Perm.append_right _ List.perm_append_comm)
theorem Sep.back {R : Ro} {M : List Hp} {h : Heap} (k : Nat) {c c' : Hp} (s : Sep R (c' :: M.eraseIdx k) h) (hk : M[k]? = some c) : Sep R (M.set k c') h := by
  refine s.perm ?_
  clear s
  induction M generalizing k with
  | nil => simp at hk
  | cons d M ih =>
    cases k with
    | zero => exact List.Perm.refl _
    | succ k =>
      simp only [List.eraseIdx_cons_succ, List.set_cons_succ, List.flatten_cons]
      have hk' : M[k]? = some c := by simpa using hk
      have := ih k hk'
      refine List.Perm.trans ?_ (List.Perm.append_left d this)
      simp only [List.flatten_cons]
      rw [← List.append_assoc, ← List.append_assoc]
      exact List.Perm.append_right _ List.perm_append_comm

/-! ## loops -/

/-- The slots at a loop's head: those of 'sl' as said, those of 'ms' anyhow, the others as they were. -/
def slotK {β : Type} (k : Nat) : List (Nat × AV) → (Unit → β) → (AV → β) → β
  | [], d, _ => d ()
  | (i, v) :: r, d, c => match Nat.beq i k with | true => c v | false => slotK k r d c
def mkOK (sl : List (Nat × AV)) (us : Nat → AV) (ms : List Nat) : List AV → List Nat → (List AV → Option (List AV)) → Option (List AV)
  | a :: e, k :: ks, c => slotK k sl (fun _ => match ms.elem k with | true => mkOK sl us ms e ks (fun l => c (us k :: l)) | false => mkOK sl us ms e ks (fun l => c (a :: l))) (fun v => mkOK sl us ms e ks (fun l => c (v :: l)))
  | _, _, c => c []

def EnvB (e0 : List AV) (ms ks : List Nat) (sl : List (Nat × AV)) (e : List AV) : Prop := ∃ us, mkOK sl us ms e0 ks some = some e

theorem W_loopB {D : Nat → Option MFunc} {Q : Ex → List AV → Heap → Prop} {a : MCode} {e0 : List AV} {h : Heap} (ms ks : List Nat) (I : Nat → List (Nat × AV) → Heap → Prop) (h0 : ∃ m sl, I m sl h ∧ EnvB e0 ms ks sl e0)
    (step : ∀ m sl us e h, I m sl h → mkOK sl us ms e0 ks some = some e → W D (.code a e h) (invK (fun m e h => ∃ sl, I m sl h ∧ EnvB e0 ms ks sl e) m Q)) : W D (.code (.loop a) e0 h) Q := by
  obtain ⟨m, sl, h1, h2⟩ := h0
  refine W_loop (fun m e h => ∃ sl, I m sl h ∧ EnvB e0 ms ks sl e) m ⟨sl, h1, h2⟩ ?_
  rintro m e h ⟨sl, h3, us, he⟩
  exact step m sl us e h h3 he

/-- The slots, spelt. -/
theorem W_spell {D : Nat → Option MFunc} {Q : Ex → List AV → Heap → Prop} {c : MCode} {e e' : List AV} {h : Heap} {x : Option (List AV)} (he : x = some e) (hs : x = some e') (k : W D (.code c e' h) Q) : W D (.code c e h) Q := by
  rw [he] at hs
  cases hs; exact k

end Go.Jx
