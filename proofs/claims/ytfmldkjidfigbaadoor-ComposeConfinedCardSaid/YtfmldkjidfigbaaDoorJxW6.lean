/-
  Walking, sixth part: memory in parts. 'Sep R M h': what R says stands still; the objects of M, part by part, are one's own.
-/
import Derived.Test.YtfmldkjidfigbaaDoorJxW5
set_option linter.unusedVariables false
set_option linter.unusedSimpArgs false
namespace Go.Jx
open Go

abbrev Hp := List (Nat × AO)
abbrev Ro := Nat → AO → Prop
/-- All that is there now. -/
def Now (h : Heap) : Ro := fun id o => h.get id = some o
def Ro.le (R R' : Ro) : Prop := ∀ id o, R id o → R' id o
theorem Ro.le.refl (R : Ro) : R.le R := fun _ _ h => h
theorem Ro.le.trans {R R' R'' : Ro} (h : R.le R') (h' : R'.le R'') : R.le R'' := fun id o k => h' id o (h id o k)
/-- With these objects too. -/
def Ro.add (R : Ro) (c : Hp) : Ro := fun id o => R id o ∨ (id, o) ∈ c
theorem Ro.le_add (R : Ro) (c : Hp) : R.le (R.add c) := fun _ _ h => .inl h

structure Sep (R : Ro) (M : List Hp) (h : Heap) : Prop where
  ro : ∀ id o, R id o → h.get id = some o
  get : ∀ p ∈ M.flatten, h.get p.1 = some p.2
  nd : (M.flatten.map Prod.fst).Nodup
  off : ∀ p ∈ M.flatten, ∀ o, ¬ R p.1 o

theorem Sep.entry (h : Heap) : Sep (Now h) [] h := ⟨fun _ _ k => k, by simp, by simp, by simp⟩
theorem Sep.le {R : Ro} {M : List Hp} {h : Heap} (s : Sep R M h) : R.le (Now h) := s.ro
theorem Sep.sub {h h' : Heap} {M : List Hp} (s : Sep (Now h) M h') (hn : h.n ≤ h'.n) : Sub h h' := ⟨hn, s.ro⟩

theorem Sep.perm {R : Ro} {M N : List Hp} {h : Heap} (s : Sep R M h) (p : M.flatten.Perm N.flatten) : Sep R N h :=
  ⟨s.ro, fun x hx => s.get x (p.mem_iff.2 hx), (p.map Prod.fst).nodup_iff.1 s.nd, fun x hx => s.off x (p.mem_iff.2 hx)⟩
theorem Sep.sublist {R : Ro} {M N : List Hp} {h : Heap} (s : Sep R M h) (p : N.flatten.Sublist M.flatten) : Sep R N h :=
  ⟨s.ro, fun x hx => s.get x (p.subset hx), (p.map Prod.fst).nodup s.nd, fun x hx => s.off x (p.subset hx)⟩

theorem eraseIdx_flatten_sublist {α : Type} : ∀ (M : List (List α)) (k : Nat), (M.eraseIdx k).flatten.Sublist M.flatten
  | [], k => by simp
  | c :: M, 0 => by simp
  | c :: M, k + 1 => by simp only [List.eraseIdx_cons_succ, List.flatten_cons]; exact (List.Sublist.refl c).append (eraseIdx_flatten_sublist M k)
/-- One part is let go. -/
theorem Sep.drop {R : Ro} {M : List Hp} {h : Heap} (s : Sep R M h) (k : Nat) : Sep R (M.eraseIdx k) h := s.sublist (eraseIdx_flatten_sublist M k)

theorem mem_flatten_of {α : Type} {M : List (List α)} {k : Nat} {c : List α} (hk : M[k]? = some c) {p : α} (hp : p ∈ c) : p ∈ M.flatten := List.mem_flatten.2 ⟨c, List.mem_of_getElem? hk, hp⟩

theorem Sep.at {R : Ro} {M : List Hp} {h : Heap} (s : Sep R M h) {k : Nat} {c : Hp} (hk : M[k]? = some c) {id : Nat} {o : AO} (hp : (id, o) ∈ c) : h.get id = some o := s.get (id, o) (mem_flatten_of hk hp)
theorem Sep.at1 {R : Ro} {M : List Hp} {h : Heap} (s : Sep R M h) (k : Nat) {id : Nat} {o : AO} (hk : M[k]? = some [(id, o)]) : h.get id = some o := s.at hk (by simp)

theorem Sep.push {R : Ro} {M : List Hp} {h : Heap} (s : Sep R M h) (o : AO) : Sep R ([(h.n, o)] :: M) (h.push o) := by
  refine ⟨fun id o' k => ?_, fun p hp => ?_, ?_, fun p hp o' k => ?_⟩
  · exact (Sub.push h o).2 _ _ (s.ro _ _ k)
  · simp only [List.flatten_cons, List.cons_append, List.nil_append, List.mem_cons] at hp
    rcases hp with rfl | hp
    · exact Heap.get_push_new _ _
    · exact (Sub.push h o).2 _ _ (s.get p hp)
  · simp only [List.flatten_cons, List.cons_append, List.nil_append, List.map_cons, List.nodup_cons]
    refine ⟨fun hm => ?_, s.nd⟩
    obtain ⟨p, hp, he⟩ := List.mem_map.1 hm
    have := Heap.get_lt (s.get p hp)
    omega
  · simp only [List.flatten_cons, List.cons_append, List.nil_append, List.mem_cons] at hp
    rcases hp with rfl | hp
    · have := Heap.get_lt (s.ro _ _ k); simp at this
    · exact s.off p hp o' k

theorem Sep.nil {R : Ro} {M : List Hp} {h : Heap} (s : Sep R M h) : Sep R ([] :: M) h := s.perm (by simp)

/-- An object of one's own turns. -/
theorem Sep.set1 {R : Ro} {M : List Hp} {h : Heap} (s : Sep R M h) {id : Nat} {o o' : AO} {A B : Hp} (hM : M.flatten = A ++ (id, o) :: B) {N : List Hp} (hN : N.flatten = A ++ (id, o') :: B) : Sep R N (h.set id o') := by
  have hg : h.get id = some o := s.get (id, o) (by rw [hM]; simp)
  have hnd := s.nd
  rw [hM, List.map_append, List.map_cons] at hnd
  have hne : ∀ p ∈ A ++ B, p.1 ≠ id := by
    intro p hp he
    rw [List.nodup_append] at hnd
    rcases List.mem_append.1 hp with hp | hp
    · exact hnd.2.2 p.1 (List.mem_map_of_mem hp) id (by simp) he
    · have := (List.nodup_cons.1 hnd.2.1).1
      exact this (List.mem_map.2 ⟨p, hp, he⟩)
  have hmem : ∀ p ∈ N.flatten, p = (id, o') ∨ p ∈ A ++ B := by
    intro p hp
    rw [hN] at hp
    simp only [List.mem_append, List.mem_cons] at hp ⊢
    rcases hp with hp | hp | hp
    · exact .inr (.inl hp)
    · exact .inl hp
    · exact .inr (.inr hp)
  have hmem' : ∀ p ∈ A ++ B, p ∈ M.flatten := by
    intro p hp
    rw [hM]
    simp only [List.mem_append, List.mem_cons] at hp ⊢
    rcases hp with hp | hp
    · exact .inl hp
    · exact .inr (.inr hp)
  refine ⟨fun j q k => ?_, fun p hp => ?_, ?_, fun p hp q k => ?_⟩
  · have : j ≠ id := by rintro rfl; exact s.off (j, o) (by rw [hM]; simp) q k
    rw [Heap.get_set_ne this]; exact s.ro _ _ k
  · rcases hmem p hp with rfl | hp
    · exact Heap.get_set_eq hg
    · rw [Heap.get_set_ne (hne p hp)]; exact s.get p (hmem' p hp)
  · rw [hN, List.map_append, List.map_cons]; exact hnd
  · rcases hmem p hp with rfl | hp
    · exact s.off (id, o) (by rw [hM]; simp) q k
    · exact s.off p (hmem' p hp) q k

theorem set_flatten {α : Type} : ∀ {M : List (List α)} {k : Nat} {c : List α}, M[k]? = some c → ∃ A B, M.flatten = A ++ (c ++ B) ∧ ∀ c', (M.set k c').flatten = A ++ (c' ++ B)
  | [], k, c, h => by simp at h
  | d :: M, 0, c, h => by simp at h; subst h; exact ⟨[], M.flatten, by simp, by simp⟩
  | d :: M, k + 1, c, h => by
    obtain ⟨A, B, h1, h2⟩ := set_flatten (M := M) (k := k) (c := c) (by simpa using h)
    exact ⟨d ++ A, B, by simp [h1], fun c' => by simp [h2]⟩

theorem Sep.turn {R : Ro} {M : List Hp} {h : Heap} (s : Sep R M h) (k : Nat) {id : Nat} {o : AO} (o' : AO) (hk : M[k]? = some [(id, o)]) : Sep R (M.set k [(id, o')]) (h.set id o') := by
  obtain ⟨A, B, h1, h2⟩ := set_flatten hk
  exact s.set1 h1 (h2 _)
/-- An object inside a part turns. -/
theorem Sep.turnIn {R : Ro} {M : List Hp} {h : Heap} (s : Sep R M h) (k : Nat) {c1 c2 : Hp} {id : Nat} {o : AO} (o' : AO) (hk : M[k]? = some (c1 ++ (id, o) :: c2)) : Sep R (M.set k (c1 ++ (id, o') :: c2)) (h.set id o') := by
  obtain ⟨A, B, h1, h2⟩ := set_flatten hk
  exact s.set1 (o := o) (A := A ++ c1) (B := c2 ++ B) (by rw [h1]; simp) (by rw [h2]; simp)
/-- An object of one's own is given up for a new one. -/
theorem Sep.anew {R : Ro} {M : List Hp} {h : Heap} (s : Sep R M h) (k : Nat) {c : Hp} (o' : AO) (hk : M[k]? = some c) : Sep R (M.set k [(h.n, o')]) (h.push o') := by
  obtain ⟨A, B, h1, h2⟩ := set_flatten hk
  have h3 := (s.push o').sublist (N := [[(h.n, o')], A ++ B]) (by
    simp only [List.flatten_cons, List.flatten_nil, List.append_nil, List.cons_append, List.nil_append, h1]
    exact List.Sublist.cons_cons _ ((List.Sublist.refl A).append (List.sublist_append_right c B)))
  refine h3.perm (N := M.set k [(h.n, o')]) ?_
  rw [h2]
  simp only [List.flatten_cons, List.flatten_nil, List.append_nil, List.cons_append, List.nil_append]
  exact (List.perm_middle (l₁ := A) (l₂ := B) (a := (h.n, o'))).symm

/-- Behind a call that leaves all that was there. -/
theorem Sep.call {R : Ro} {M N : List Hp} {h h' : Heap} (s : Sep R M h) (t : Sep (Now h) N h') : Sep R (N ++ M) h' := by
  refine ⟨fun id o k => t.ro _ _ (s.ro _ _ k), fun p hp => ?_, ?_, fun p hp o k => ?_⟩
  · rw [List.flatten_append, List.mem_append] at hp
    rcases hp with hp | hp
    · exact t.get p hp
    · exact t.ro _ _ (s.get p hp)
  · rw [List.flatten_append, List.map_append, List.nodup_append]
    refine ⟨t.nd, s.nd, fun a ha b hb he => ?_⟩
    subst he
    obtain ⟨p, hp, rfl⟩ := List.mem_map.1 ha
    obtain ⟨q, hq, he⟩ := List.mem_map.1 hb
    exact t.off p hp q.2 (by rw [← he]; exact s.get q hq)
  · rw [List.flatten_append, List.mem_append] at hp
    rcases hp with hp | hp
    · exact t.off p hp o (s.ro _ _ k)
    · exact s.off p hp o k

/-- A part stands still from now on. -/
theorem Sep.freeze {R : Ro} {M : List Hp} {h : Heap} (s : Sep R M h) (k : Nat) {c : Hp} (hk : M[k]? = some c) : Sep (R.add c) (M.eraseIdx k) h := by
  have hsub := eraseIdx_flatten_sublist M k
  have hdis : ∀ p ∈ (M.eraseIdx k).flatten, ∀ o, (p.1, o) ∉ c := by
    intro p hp o ho
    have : ∀ (M : List Hp) (k : Nat), M[k]? = some c → (M.flatten.map Prod.fst).Nodup → p ∈ (M.eraseIdx k).flatten → False := by
      intro M
      induction M with
      | nil => intro k hk; simp at hk
      | cons d M ih =>
        intro k hk hnd hp
        rw [List.flatten_cons, List.map_append, List.nodup_append] at hnd
        cases k with
        | zero =>
          simp at hk; subst hk
          simp only [List.eraseIdx_zero, List.tail_cons] at hp
          exact hnd.2.2 p.1 (List.mem_map.2 ⟨(p.1, o), ho, rfl⟩) p.1 (List.mem_map_of_mem hp) rfl
        | succ k =>
          simp only [List.eraseIdx_cons_succ, List.flatten_cons, List.mem_append] at hp
          rcases hp with hp | hp
          · refine hnd.2.2 p.1 (List.mem_map_of_mem hp) p.1 ?_ rfl
            exact List.mem_map.2 ⟨(p.1, o), mem_flatten_of (c := c) (k := k) (by simpa using hk) ho, rfl⟩
          · exact ih k (by simpa using hk) hnd.2.1 hp
    exact this M k hk s.nd hp
  refine ⟨fun id o k' => ?_, fun p hp => s.get p (hsub.subset hp), (hsub.map Prod.fst).nodup s.nd, fun p hp o k' => ?_⟩
  · rcases k' with k' | k'
    · exact s.ro _ _ k'
    · exact s.at hk k'
  · rcases k' with k' | k'
    · exact s.off p (hsub.subset hp) o k'
    · exact hdis p hp o k'

/-! ## elements -/

/-- How elements lie in cells. -/
structure El (α : Type) where
  n : Nat
  enc : α → List SV
  dec : List SV → α
  dflt : α
  len : ∀ a, (enc a).length = n
  pos : 0 < n
  back : ∀ a, dec (enc a) = a

def intEl (k : IntKind) : El Int := ⟨1, fun x => [.int k x], fun l => match l with | [.int _ x] => x | _ => 0, 0, fun _ => rfl, by decide, fun _ => rfl⟩
def strEl : El (List UInt8) := ⟨1, fun x => [.str x], fun l => match l with | [.str x] => x | _ => [], [], fun _ => rfl, by decide, fun _ => rfl⟩
def boolEl : El Bool := ⟨1, fun x => [.bool x], fun l => match l with | [.bool x] => x | _ => false, false, fun _ => rfl, by decide, fun _ => rfl⟩
def svEl : El SV := ⟨1, fun x => [x], fun l => match l with | [x] => x | _ => .nils, .nils, fun _ => rfl, by decide, fun _ => rfl⟩

section
variable {α : Type} {E : El α} {R R' : Ro} {v : SV} {L : List α}

/-- A slice, and what it has, by what stands still. -/
def SlR (E : El α) (R : Ro) (v : SV) (L : List α) : Prop :=
  (L = [] ∧ (v = .nils ∨ ∃ b, v = .eslice b)) ∨
  ∃ id off cap t kd cs, v = .slice id off L.length cap ∧ L.length ≤ cap ∧ R id (.cells t kd cs) ∧ ∀ (i : Nat) (x : α), L[i]? = some x → readN cs (off + i * E.n) E.n = some (E.enc x)

theorem SlR.mono (l : R.le R') (p : SlR E R v L) : SlR E R' v L := by
  rcases p with p | ⟨id, off, cap, t, kd, cs, h1, h2, h3, h4⟩
  · exact .inl p
  · exact .inr ⟨id, off, cap, t, kd, cs, h1, h2, l _ _ h3, h4⟩
theorem SlR.sl {h : Heap} (p : SlR E (Now h) v L) : Sl E.enc E.n h v L := p
theorem SlR.of {h : Heap} (p : Sl E.enc E.n h v L) : SlR E (Now h) v L := p
theorem SlR.here {M : List Hp} {h : Heap} (s : Sep R M h) (p : SlR E R v L) : Sl E.enc E.n h v L := p.mono s.le
theorem SlR.now {M : List Hp} {h : Heap} (s : Sep R M h) (p : SlR E R v L) : SlR E (Now h) v L := p.mono s.le
theorem SlR.nil (R : Ro) : SlR E R .nils [] := .inl ⟨rfl, .inl rfl⟩

theorem SlR.cut (p : SlR E R v L) {lo hi : Nat} (hlo : lo ≤ hi) (hhi : hi ≤ L.length) : ∃ v', sliceA E.n (.sc v) (some (.sc (.int .i64 lo))) (some (.sc (.int .i64 hi))) = some (.sc v') ∧ SlR E R v' ((L.take hi).drop lo) := by
  rcases p with ⟨rfl, hv⟩ | ⟨id, off, cap, t, kd, cs, rfl, h2, h3, h4⟩
  · have h0 : lo = 0 ∧ hi = 0 := by simp at hhi; omega
    obtain ⟨rfl, rfl⟩ := h0
    rcases hv with rfl | ⟨b, rfl⟩
    · exact ⟨.nils, rfl, .inl ⟨by simp, .inl rfl⟩⟩
    · exact ⟨.eslice b, rfl, .inl ⟨by simp, .inr ⟨b, rfl⟩⟩⟩
  · have hb : boundsA L.length cap (some (.sc (.int .i64 (lo : Int)))) (some (.sc (.int .i64 (hi : Int)))) = some (lo, hi) := by
      unfold boundsA
      simp only [natA]
      rw [if_pos (by omega), if_pos (by omega)]
      simp only [Int.toNat_natCast]
      rw [if_pos (by omega)]
    unfold sliceA
    simp only [hb]
    by_cases hl : lo = cap ∧ 0 < cap
    · rw [if_pos hl]
      refine ⟨_, rfl, .inl ⟨?_, .inr ⟨false, rfl⟩⟩⟩
      rw [List.drop_eq_nil_iff, List.length_take]; omega
    · rw [if_neg hl]
      have hlen : ((L.take hi).drop lo).length = hi - lo := by rw [List.length_drop, List.length_take]; omega
      refine ⟨_, rfl, .inr ⟨id, off + lo * E.n, cap - lo, t, kd, cs, by rw [hlen], by rw [hlen]; omega, h3, fun i x hx => ?_⟩⟩
      rw [List.getElem?_drop] at hx
      have hi' : lo + i < hi := by
        have := (List.getElem?_eq_some_iff.1 hx).1
        rw [List.length_take] at this; omega
      rw [List.getElem?_take_of_lt hi'] at hx
      have := h4 _ _ hx
      rw [Nat.add_mul] at this
      rw [← this]; congr 1; omega

/-- A slice of one's own: its whole object. -/
def OwnS (E : El α) (t : TypeId) (v : SV) (L : List α) (c : Hp) : Prop :=
  (L = [] ∧ c = [] ∧ (v = .nils ∨ ∃ b, v = .eslice b)) ∨ ∃ id kd, v = .slice id 0 L.length L.length ∧ c = [(id, .cells t kd (L.flatMap E.enc))] ∧ kd ≠ .ro

theorem OwnS.nil (t : TypeId) : OwnS E t .nils [] [] := .inl ⟨rfl, rfl, .inl rfl⟩
theorem OwnS.one {t : TypeId} {id : Nat} {kd : Kind} (hk : kd ≠ .ro) : OwnS E t (.slice id 0 L.length L.length) L [(id, .cells t kd (L.flatMap E.enc))] := .inr ⟨id, kd, rfl, rfl, hk⟩

theorem Sl.wholeE {h : Heap} {id : Nat} {t : TypeId} {kd : Kind} (hg : h.get id = some (.cells t kd (L.flatMap E.enc))) : Sl E.enc E.n h (.slice id 0 L.length L.length) L := Sl.whole E.len hg

theorem OwnS.sl {t : TypeId} {c : Hp} {M : List Hp} {h : Heap} (p : OwnS E t v L c) (s : Sep R M h) (hc : c ∈ M) : Sl E.enc E.n h v L := by
  rcases p with ⟨h1, _, h2⟩ | ⟨id, kd, rfl, rfl, hk⟩
  · exact .inl ⟨h1, h2⟩
  · exact Sl.wholeE (s.get (id, .cells t kd (L.flatMap E.enc)) (List.mem_flatten.2 ⟨_, hc, by simp⟩))
theorem OwnS.now {t : TypeId} {c : Hp} {M : List Hp} {h : Heap} (p : OwnS E t v L c) (s : Sep R M h) (hc : c ∈ M) : SlR E (Now h) v L := p.sl s hc
/-- Frozen. -/
theorem OwnS.add {t : TypeId} {c : Hp} (p : OwnS E t v L c) (R : Ro) : SlR E (R.add c) v L := by
  rcases p with ⟨h1, _, h2⟩ | ⟨id, kd, rfl, rfl, hk⟩
  · exact .inl ⟨h1, h2⟩
  · refine .inr ⟨id, 0, _, t, kd, L.flatMap E.enc, rfl, Nat.le_refl _, .inr (by simp), fun i x hx => ?_⟩
    rw [Nat.zero_add, List.flatMap_def]
    exact readN_flatten (by intro c hc; obtain ⟨a, _, rfl⟩ := List.mem_map.1 hc; exact E.len a) (by rw [List.getElem?_map, hx]; rfl)
theorem OwnS.pos {t : TypeId} {c : Hp} (p : OwnS E t v L c) (hl : 0 < L.length) : ∃ id kd, v = .slice id 0 L.length L.length ∧ c = [(id, .cells t kd (L.flatMap E.enc))] ∧ kd ≠ .ro := by
  rcases p with ⟨rfl, _⟩ | p
  · simp at hl
  · exact p

end

end Go.Jx
