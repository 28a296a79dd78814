/-
  What a law is handed, as the plain machine has it: values, and objects that are only read.
-/
import Derived.Test.YtfmldkjidfigbaaDoorJxClose
set_option linter.unusedVariables false
set_option linter.unusedSimpArgs false
namespace Go.Jx
open Go Go.RowKit Go.WideShapes Go.ChangeShapes Go.ChangeAt

/-- What a cell is read as. 'slice e n el': a slice of elements of the type e, each of n cells. -/
inductive Sh where
  | int (k : IntKind) | bool | str | slice (e : TypeId) (n : Nat) (el : List Sh)

mutual
def OpenS (H : Heap) : Sh → SV → Prop
  | .int k, v => ∃ n, v = .int k n ∧ k.min ≤ n ∧ n ≤ k.max
  | .bool, v => ∃ b, v = .bool b
  | .str, v => ∃ s, v = .str s ∧ s.length ≤ 2 ^ 63 - 1
  | .slice e n el, v => v = .nils ∨ v = .eslice false ∨
      ∃ id len cs, v = .slice id 0 len len ∧ 0 < len ∧ len ≤ 2 ^ 63 - 1 ∧ cs.length = len * n ∧ H.get id = some (.cells e .ro cs) ∧ ∀ i, i < len → OpenL H el ((cs.drop (i * n)).take n)
def OpenL (H : Heap) : List Sh → List SV → Prop
  | [], l => l = []
  | s :: r, l => ∃ v l', l = v :: l' ∧ OpenS H s v ∧ OpenL H r l'
end

/-- All that was there is there, and the same. -/
def Sub (H H' : Heap) : Prop := H.n ≤ H'.n ∧ ∀ id o, H.get id = some o → H'.get id = some o
theorem Sub.refl (H : Heap) : Sub H H := ⟨Nat.le_refl _, fun _ _ h => h⟩
theorem Sub.trans {H H' H'' : Heap} (h : Sub H H') (k : Sub H' H'') : Sub H H'' := ⟨Nat.le_trans h.1 k.1, fun id o e => k.2 _ _ (h.2 _ _ e)⟩
theorem Heap.get_push_new (h : Heap) (o : AO) : (h.push o).get h.n = some o := by simp [Heap.push, Heap.get]
theorem Heap.get_push_old {h : Heap} {o : AO} {id : Nat} (hid : id < h.n) : (h.push o).get id = h.get id := by
  have : h.n + 1 - 1 - id = (h.n - 1 - id) + 1 := by omega
  simp only [Heap.push, Heap.get, this, hid, if_true, show id < h.n + 1 by omega, List.getElem?_cons_succ]
theorem Sub.push (H : Heap) (o : AO) : Sub H (H.push o) := ⟨by simp [Heap.push], fun id o' e => by rw [Heap.get_push_old (Heap.get_lt e)]; exact e⟩

mutual
theorem OpenS.mono {H H' : Heap} (h : Sub H H') : ∀ (s : Sh) (v : SV), OpenS H s v → OpenS H' s v
  | .int k, v, r => by simp only [OpenS] at r ⊢; exact r
  | .bool, v, r => by simp only [OpenS] at r ⊢; exact r
  | .str, v, r => by simp only [OpenS] at r ⊢; exact r
  | .slice e n el, v, r => by
    simp only [OpenS] at r ⊢
    rcases r with r | r | ⟨id, len, cs, h1, h2, h3, h4, h5, h6⟩
    · exact .inl r
    · exact .inr (.inl r)
    · exact .inr (.inr ⟨id, len, cs, h1, h2, h3, h4, h.2 _ _ h5, fun i hi => OpenL.mono h el _ (h6 i hi)⟩)
theorem OpenL.mono {H H' : Heap} (h : Sub H H') : ∀ (s : List Sh) (l : List SV), OpenL H s l → OpenL H' s l
  | [], l, r => by simp only [OpenL] at r ⊢; exact r
  | s :: rs, l, r => by
    simp only [OpenL] at r ⊢
    obtain ⟨v, l', h1, h2, h3⟩ := r
    exact ⟨v, l', h1, OpenS.mono h s v h2, OpenL.mono h rs l' h3⟩
end

theorem OpenL.length {H : Heap} : ∀ {s : List Sh} {l : List SV}, OpenL H s l → l.length = s.length
  | [], l, r => by simp only [OpenL] at r; simp [r]
  | s :: rs, l, r => by
    simp only [OpenL] at r
    obtain ⟨v, l', rfl, _, h3⟩ := r
    simp [OpenL.length h3]
theorem OpenL.append {H : Heap} : ∀ {s s' : List Sh} {l l' : List SV}, OpenL H s l → OpenL H s' l' → OpenL H (s ++ s') (l ++ l')
  | [], s', l, l', r, r' => by simp only [OpenL] at r; subst r; exact r'
  | s :: rs, s', l, l', r, r' => by
    simp only [OpenL] at r
    obtain ⟨v, l1, rfl, h2, h3⟩ := r
    simp only [List.cons_append, OpenL]
    exact ⟨v, _, rfl, h2, OpenL.append h3 r'⟩

section
variable (P : Program)

def shGo (f : TypeId → Option (List Sh)) : List Field → Nat → Option (List Sh)
  | [], _ => some []
  | g :: r, o =>
    if g.offset ≠ o then none else
    match f g.type with
    | some ks => if P.cellsOf g.type = ks.length then (shGo f r (o + ks.length)).map (ks ++ ·) else none
    | none => none

/-- The cells of a type. -/
def shOf : Nat → TypeId → Option (List Sh)
  | 0, _ => none
  | d + 1, t =>
    match P.underlying t with
    | some (.int k) => some [.int k]
    | some .bool => some [.bool]
    | some .string => some [.str]
    | some (.slice e) => (match shOf d e with | some ks => if P.cellsOf e = ks.length ∧ 0 < ks.length then some [.slice e ks.length ks] else none | none => none)
    | some (.struct fs) => (match shGo P (shOf d) fs.toList 0 with | some ks => if P.cellsOf t = ks.length then some ks else none | none => none)
    | some (.array n e) => (match shOf d e with | some ks => if P.cellsOf e = ks.length ∧ P.cellsOf t = n * ks.length then some (List.replicate n ks).flatten else none | none => none)
    | _ => none
end

theorem mapM_some {α β : Type} {f : α → Option β} : ∀ {l : List α} {xs : List β}, l.mapM f = some xs → LR (fun a b => f a = some b) l xs
  | [], xs, h => by simp at h; subst h; trivial
  | a :: l, xs, h => by
    rw [List.mapM_cons] at h
    cases hf : f a with
    | none => rw [hf] at h; cases h
    | some b =>
      rw [hf] at h
      cases hl : l.mapM f with
      | none => rw [hl] at h; cases h
      | some bs =>
        rw [hl] at h
        cases h
        exact ⟨hf, mapM_some hl⟩

theorem mapM_range {β : Type} {f : Nat → Option β} {n : Nat} {xs : List β} (h : (List.range n).mapM f = some xs) : xs.length = n ∧ ∀ i, i < n → f i = xs[i]? := by
  have h1 := mapM_some h
  have hl : xs.length = n := by have := h1.length; simpa using this.symm
  refine ⟨hl, fun i hi => ?_⟩
  obtain ⟨y, h2, h3⟩ := h1.get (i := i) (x := i) (by simp [hi])
  rw [h2, h3]

section
variable {H0 : Type} {enc : TypeId × Value → H0} {P : Program} {W : World}

structure Opened (P : Program) (W : World) (ρ : Rho) (H : Heap) : Prop where
  rel : Rel P W ρ H W
  none : ∀ id o, H.get id = some o → ¬ o.owned

/-- An object that is only read, out of cells that there are. -/
theorem Opened.see {ρ : Rho} {H : Heap} (r : Opened P W ρ H) {b base extra : Nat} {t ty' : TypeId} {c : Array Value} {fz : Nat × Nat} {cs : List SV} (hb : W.heap[b]? = some (.cells c ty' fz))
    (hc : ∀ (i : Nat) (s : SV), cs[i]? = some s → ∃ v, c[base + i]? = some v ∧ SVR ρ s v) :
    Opened P W (ρ.add H.n ⟨b, base, extra⟩) (H.push (.cells t .ro cs)) ∧ Ext ρ H (ρ.add H.n ⟨b, base, extra⟩) (H.push (.cells t .ro cs)) := by
  have hsub : ∀ id t', ρ id = some t' → (ρ.add H.n ⟨b, base, extra⟩) id = some t' := by
    intro id t' e
    have := r.rel.dom _ _ e
    simp only [Rho.add]; rw [if_neg (by omega)]; exact e
  refine ⟨⟨⟨r.rel.below, Heap.push_wf r.rel.wf _, ?_, ?_, ?_⟩, ?_⟩, ⟨hsub, ?_, by simp [Heap.push_n], ?_⟩⟩
  · intro id t' e
    simp only [Rho.add] at e
    split at e
    · subst_vars; simp [Heap.push_n]
    · have := r.rel.dom _ _ e; simp only [Heap.push_n]; omega
  · intro id t' o' e he
    rw [Heap.get_push r.rel.wf] at he
    simp only [Rho.add] at e
    by_cases hid : id = H.n
    · simp only [hid, if_true, Option.some.injEq] at e he
      subst e; subst he
      refine ⟨c, ty', fz, hb, fun i s hi => ?_, fun h => absurd rfl h, fun h => by cases h⟩
      obtain ⟨v, h1, h2⟩ := hc i s hi
      exact ⟨v, h1, h2.mono hsub⟩
    · rw [if_neg hid] at e he
      exact OR.mono hsub (r.rel.objs id t' o' e he)
  · intro id id' t1 t2 o1 o2 e e' hne h1 h2 hown
    rw [Heap.get_push r.rel.wf] at h1
    by_cases hid : id = H.n
    · rw [if_pos hid] at h1; cases h1; exact absurd rfl hown
    · rw [if_neg hid] at h1; exact absurd hown (r.none _ _ h1)
  · intro id o h
    rw [Heap.get_push r.rel.wf] at h
    split at h
    · cases h; exact fun hh => hh rfl
    · exact r.none _ _ h
  · intro id t' e
    simp only [Rho.add] at e
    split at e
    · subst_vars; exact .inr (Nat.le_refl _)
    · exact .inl e
  · intro id hid e
    rw [Heap.get_push r.rel.wf, if_neg (by omega)]

def OpensTo (P : Program) (W : World) (ρ : Rho) (H : Heap) (ks : List Sh) (cs : List Value) : Prop :=
  ∃ ρ' H' svs, Opened P W ρ' H' ∧ Ext ρ H ρ' H' ∧ Sub H H' ∧ LR (SVR ρ') svs cs ∧ OpenL H' ks svs

theorem OpensTo.append {ρ : Rho} {H : Heap} {ks ks' : List Sh} {cs cs' : List Value} (h : OpensTo P W ρ H ks cs) (h' : ∀ ρ H, Opened P W ρ H → OpensTo P W ρ H ks' cs') : OpensTo P W ρ H (ks ++ ks') (cs ++ cs') := by
  obtain ⟨ρ1, H1, s1, o1, e1, b1, l1, p1⟩ := h
  obtain ⟨ρ2, H2, s2, o2, e2, b2, l2, p2⟩ := h' ρ1 H1 o1
  exact ⟨ρ2, H2, s1 ++ s2, o2, e1.trans e2, b1.trans b2, (l1.mono fun _ _ => SVR.mono e2.sub).append l2, (p1.mono b2).append p2⟩

theorem OpensTo.nil {ρ : Rho} {H : Heap} (r : Opened P W ρ H) : OpensTo P W ρ H [] [] := ⟨ρ, H, [], r, Ext.refl _ _, Sub.refl _, trivial, by simp [OpenL]⟩
theorem OpensTo.one {ρ : Rho} {H : Heap} (r : Opened P W ρ H) {k : Sh} {s : SV} {v : Value} (h1 : SVR ρ s v) (h2 : OpenS H k s) : OpensTo P W ρ H [k] [v] :=
  ⟨ρ, H, [s], r, Ext.refl _ _, Sub.refl _, ⟨h1, trivial⟩, by simp only [OpenL]; exact ⟨s, [], rfl, h2, rfl⟩⟩

theorem cells?_spec {a : Addr} {m s : Nat} {ecs : List Value} (hs : 0 < s) (h : W.cells? 0 (a.add m) s = some ecs) :
    ∃ c ty fz, W.heap[a.block]? = some (.cells c ty fz) ∧ ecs.length = s ∧ (∀ q, q < s → c[a.off + m + q]? = ecs[q]?) ∧ (m = 0 → a.spot = none) := by
  unfold World.cells? at h
  rw [if_pos (Nat.zero_le _)] at h
  obtain ⟨hl, hq⟩ := mapM_range h
  have hadd : ∀ q, ((a.add m).add q).block = a.block ∧ ((a.add m).add q).off = a.off + m + q ∧ (m = 0 → q = 0 → ((a.add m).add q).spot = a.spot) := by
    intro q
    unfold Addr.add
    refine ⟨?_, ?_, ?_⟩
    · split <;> split <;> rfl
    · split <;> split <;> simp_all
    · rintro rfl rfl; rfl
  have h0 := hq 0 hs
  unfold World.cell? at h0
  rw [(hadd 0).1] at h0
  cases hb : W.heap[a.block]? with
  | none => rw [hb] at h0; rw [List.getElem?_eq_getElem (by omega)] at h0; cases h0
  | some o =>
    rw [hb] at h0
    cases o with
    | cells c ty fz =>
      refine ⟨c, ty, fz, rfl, hl, fun q hqs => ?_, fun hm => ?_⟩
      · have h1 := hq q hqs
        unfold World.cell? at h1
        rw [(hadd q).1, hb] at h1
        simp only at h1
        split at h1
        · rw [List.getElem?_eq_getElem (by omega)] at h1; cases h1
        · rw [(hadd q).2.1] at h1; exact h1
      · subst hm
        simp only at h0
        split at h0
        · rw [List.getElem?_eq_getElem (by omega)] at h0; cases h0
        · rename_i hsp
          rw [(hadd 0).2.2 rfl rfl] at hsp
          cases ha : a.spot with
          | none => rfl
          | some x => rw [ha] at hsp; simp at hsp
    | _ => simp only at h0; rw [List.getElem?_eq_getElem (by omega)] at h0; cases h0

/-- Opening for all types and all cells, with so much fuel. -/
def Opens (enc : TypeId × Value → H0) (P : Program) (W : World) (held : Bool) (fuel : Nat) : Prop :=
  ∀ (t : TypeId) (cs : List Value) (x : DataW H0 × List MemPlace) (k : Nat) (ks : List Sh), DataW.trod enc P W 0 (fun _ => true) held fuel t cs = some x → shOf P k t = some ks →
    ∀ ρ H, Opened P W ρ H → OpensTo P W ρ H ks cs

theorem opens_fields {held : Bool} {n k : Nat} (ih : Opens enc P W held n) {cs : List Value} : ∀ (l : List Field) (o : Nat) (ks : List Sh),
    (∀ f ∈ l, ∃ x, DataW.trod enc P W 0 (fun _ => true) held n f.type ((cs.drop f.offset).take (P.cellsOf f.type)) = some x) → shGo P (shOf P k) l o = some ks →
    ∀ ρ H, Opened P W ρ H → OpensTo P W ρ H ks ((cs.drop o).take ks.length)
  | [], o, ks, hx, hk, ρ, H, r => by
    simp only [shGo, Option.some.injEq] at hk; subst hk
    exact OpensTo.nil r
  | f :: l, o, ks, hx, hk, ρ, H, r => by
    unfold shGo at hk
    split at hk
    · cases hk
    · rename_i ho
      split at hk
      · rename_i k1 hk1
        split at hk
        · rename_i hlen
          simp only [Option.map_eq_some_iff] at hk
          obtain ⟨k2, hk2, rfl⟩ := hk
          have ho' : f.offset = o := by simpa using ho
          obtain ⟨x, hx1⟩ := hx f (by simp)
          rw [ho', hlen] at hx1
          have h1 := ih _ _ _ _ _ hx1 hk1 ρ H r
          rw [List.length_append, List.take_add, List.drop_drop]
          exact h1.append fun ρ' H' r' => opens_fields ih l _ k2 (fun g hg => hx g (by simp [hg])) hk2 ρ' H' r'
        · cases hk
      · cases hk

theorem opens_elems {held : Bool} {n k : Nat} (ih : Opens enc P W held n) {cs : List Value} {e : TypeId} {k1 : List Sh} (hk : shOf P k e = some k1) : ∀ (m : Nat),
    (∀ i, i < m → ∃ x, DataW.trod enc P W 0 (fun _ => true) held n e ((cs.drop (i * k1.length)).take k1.length) = some x) →
    ∀ ρ H, Opened P W ρ H → OpensTo P W ρ H (List.replicate m k1).flatten (cs.take (m * k1.length))
  | 0, hx, ρ, H, r => by simpa using OpensTo.nil r
  | m + 1, hx, ρ, H, r => by
    have h1 := opens_elems ih hk m (fun i hi => hx i (by omega)) ρ H r
    rw [List.replicate_succ', List.flatten_concat, Nat.succ_mul, List.take_add]
    refine h1.append fun ρ' H' r' => ?_
    obtain ⟨x, hx1⟩ := hx m (by omega)
    exact ih _ _ _ _ _ hx1 hk ρ' H' r'

theorem opens_slots {held : Bool} {n k : Nat} (ih : Opens enc P W held n) {a : Addr} {e : TypeId} {k1 : List Sh} (hk : shOf P k e = some k1) (hpos : 0 < k1.length) {c : Array Value} {ty : TypeId} {fz : Nat × Nat} (hb : W.heap[a.block]? = some (.cells c ty fz)) : ∀ (m : Nat),
    (∀ i, i < m → ∃ x, (W.cells? 0 (a.add (i * k1.length)) k1.length).bind (DataW.trod enc P W 0 (fun _ => true) held n e) = some x) →
    ∀ ρ H, Opened P W ρ H → ∃ (ρ' : Rho) (H' : Heap) (svs : List SV), Opened P W ρ' H' ∧ Ext ρ H ρ' H' ∧ Sub H H' ∧ svs.length = m * k1.length ∧
      (∀ (i : Nat) (s : SV), svs[i]? = some s → ∃ v, c[a.off + i]? = some v ∧ SVR ρ' s v) ∧ ∀ i, i < m → OpenL H' k1 ((svs.drop (i * k1.length)).take k1.length)
  | 0, hx, ρ, H, r => ⟨ρ, H, [], r, Ext.refl _ _, Sub.refl _, by simp, fun i s h => by simp at h, fun i hi => by omega⟩
  | m + 1, hx, ρ, H, r => by
    obtain ⟨ρ1, H1, s1, o1, e1, b1, l1, c1, p1⟩ := opens_slots ih hk hpos hb m (fun i hi => hx i (by omega)) ρ H r
    obtain ⟨x, hx1⟩ := hx m (by omega)
    rw [Option.bind_eq_some_iff] at hx1
    obtain ⟨ecs, h1, h2⟩ := hx1
    obtain ⟨ρ2, H2, s2, o2, e2, b2, l2, p2⟩ := ih _ _ _ _ _ h2 hk ρ1 H1 o1
    obtain ⟨c', ty', fz', hb', hl', hq', _⟩ := cells?_spec hpos h1
    rw [hb] at hb'
    cases hb'
    have hs2 : s2.length = k1.length := by rw [l2.length, hl']
    refine ⟨ρ2, H2, s1 ++ s2, o2, e1.trans e2, b1.trans b2, by rw [List.length_append, l1, hs2, Nat.succ_mul], fun i s hs => ?_, fun i hi => ?_⟩
    · by_cases hlt : i < s1.length
      · rw [List.getElem?_append_left hlt] at hs
        obtain ⟨v, h3, h4⟩ := c1 i s hs
        exact ⟨v, h3, h4.mono e2.sub⟩
      · rw [List.getElem?_append_right (by omega)] at hs
        obtain ⟨v, h3, h4⟩ := l2.get hs
        have hlt2 : i - s1.length < k1.length := by rw [← hs2]; exact (List.getElem?_eq_some_iff.1 hs).1
        refine ⟨v, ?_, h4⟩
        rw [← h3, ← hq' _ hlt2]
        congr 1
        omega
    · by_cases him : i < m
      · have hle : i * k1.length + k1.length ≤ s1.length := by
          rw [l1]
          calc i * k1.length + k1.length = (i + 1) * k1.length := by rw [Nat.succ_mul]
            _ ≤ m * k1.length := Nat.mul_le_mul_right _ him
        rw [List.drop_append_of_le_length (by omega), List.take_append_of_le_length (by rw [List.length_drop]; omega)]
        exact (p1 i him).mono b2
      · obtain rfl : i = m := by omega
        rw [← l1, List.drop_left, ← hs2, List.take_length]
        exact p2

theorem DataW.trod_array' {held : Bool} {n : Nat} {t e : TypeId} {m : Nat} {cs : List Value} {x : DataW H0 × List MemPlace} (ht : P.underlying t = some (.array m e)) (h : DataW.trod enc P W 0 (fun _ => true) held (n + 1) t cs = some x) :
    cs.length = P.cellsOf t ∧ ∀ i, i < m → ∃ y, DataW.trod enc P W 0 (fun _ => true) held n e ((cs.drop (i * P.cellsOf e)).take (P.cellsOf e)) = some y := by
  unfold DataW.trod at h
  rw [ht] at h
  simp only at h
  split at h
  · rename_i hl
    simp only [Option.map_eq_some_iff] at h
    obtain ⟨xs, h1, _⟩ := h
    refine ⟨hl, fun i hi => ?_⟩
    obtain ⟨h2, h3⟩ := mapM_range h1
    rw [h3 i hi]
    exact ⟨xs[i]'(by omega), List.getElem?_eq_getElem (by omega)⟩
  · cases h

theorem open_cells (held : Bool) : ∀ fuel, Opens enc P W held fuel := by
  intro fuel
  induction fuel with
  | zero => intro t cs x k ks h; simp [DataW.trod] at h
  | succ fuel ih =>
    intro t cs x k ks h hk ρ H r
    cases k with
    | zero => simp [shOf] at hk
    | succ k =>
      unfold shOf at hk
      cases ht : P.underlying t with
      | none => rw [ht] at hk; cases hk
      | some ty =>
        rw [ht] at hk
        cases ty with
        | int q =>
          simp only [Option.some.injEq] at hk; subst hk
          obtain ⟨n, rfl, _, h4⟩ := DataW.trod_int ht h
          simp only [Lit.wf, Bool.and_eq_true, decide_eq_true_eq] at h4
          exact OpensTo.one r (s := .int q n) rfl (by simp only [OpenS]; exact ⟨n, rfl, h4.1, h4.2⟩)
        | bool =>
          simp only [Option.some.injEq] at hk; subst hk
          obtain ⟨b, rfl, _⟩ := DataW.trod_bool ht h
          exact OpensTo.one r (s := .bool b) rfl (by simp only [OpenS]; exact ⟨b, rfl⟩)
        | string =>
          simp only [Option.some.injEq] at hk; subst hk
          obtain ⟨s, rfl, _, hs⟩ := DataW.trod_string ht h
          exact OpensTo.one r (s := .str s.data.toList) (by simp [SVR]) (by simp only [OpenS]; exact ⟨_, rfl, by unfold maxLen at hs; simpa using hs⟩)
        | struct fs =>
          simp only at hk
          split at hk
          · rename_i ks' hgo
            split at hk
            · rename_i hlen
              cases hk
              obtain ⟨xs, n, hn, _, hl, hxs, hf⟩ := DataW.trod_struct ht h
              cases hn
              have := opens_fields (cs := cs) ih fs.toList 0 ks (fun f hfm => by
                obtain ⟨i, hi, hfi⟩ := List.getElem_of_mem hfm
                have h1 : fs[i]? = some f := by rw [← Array.getElem?_toList, List.getElem?_eq_getElem hi, hfi]
                rw [hf i f h1]
                have : i < xs.length := by rw [hxs]; simpa using hi
                exact ⟨xs[i], List.getElem?_eq_getElem this⟩) hgo ρ H r
              rw [List.drop_zero, List.take_of_length_le (by omega)] at this
              exact this
            · cases hk
          · cases hk
        | array n e =>
          simp only at hk
          split at hk
          · rename_i k1 hk1
            split at hk
            · rename_i hlen
              cases hk
              obtain ⟨hl, hx⟩ := DataW.trod_array' ht h
              rw [hlen.1] at hx
              have := opens_elems (cs := cs) ih hk1 n hx ρ H r
              rw [List.take_of_length_le (by rw [hl, hlen.2]; exact Nat.le_refl _)] at this
              exact this
            · cases hk
          · cases hk
        | slice e =>
          simp only at hk
          split at hk
          · rename_i k1 hk1
            split at hk
            · rename_i hlen
              cases hk
              rcases DataW.trod_slice ht h with ⟨rfl, _⟩ | ⟨a, len, cap, elems, rest, n, hn, rfl, _, _, hle, hcap, hel, hx, _⟩
              · exact OpensTo.one r (s := .nils) rfl (by simp [OpenS])
              · cases hn
                rw [hlen.1] at hx
                by_cases h0 : len = 0
                · subst h0
                  exact OpensTo.one r (s := .eslice false) ⟨a, cap, rfl, fun hh => by cases hh⟩ (by simp [OpenS])
                · have hx' : ∀ i, i < len → ∃ x, (W.cells? 0 (a.add (i * k1.length)) k1.length).bind (DataW.trod enc P W 0 (fun _ => true) held fuel e) = some x := by
                    intro i hi
                    rw [hx i hi]
                    exact ⟨elems[i]'(by omega), List.getElem?_eq_getElem (by omega)⟩
                  obtain ⟨y, hy⟩ := hx' 0 (by omega)
                  rw [Option.bind_eq_some_iff] at hy
                  obtain ⟨ecs, hy1, _⟩ := hy
                  rw [Nat.zero_mul] at hy1
                  obtain ⟨c, ty, fz, hb, _, _, hsp⟩ := cells?_spec hlen.2 hy1
                  obtain ⟨ρ1, H1, svs, o1, e1, b1, l1, c1, p1⟩ := opens_slots ih hk1 hlen.2 hb len hx' ρ H r
                  obtain ⟨o2, e2⟩ := o1.see (t := e) (extra := cap - len) hb c1
                  have hnew : (ρ1.add H1.n ⟨a.block, a.off, cap - len⟩) H1.n = some ⟨a.block, a.off, cap - len⟩ := by simp [Rho.add]
                  refine ⟨_, _, [.slice H1.n 0 len len], o2, e1.trans e2, b1.trans (Sub.push _ _), ⟨⟨_, hnew, ?_⟩, trivial⟩, ?_⟩
                  · have ha : a = (⟨a.block, a.off, none⟩ : Addr) := by
                      have := hsp rfl
                      cases a; simp_all
                    simp only [Tgt.addr, Nat.add_zero]
                    rw [← ha, show len + (cap - len) = cap by omega]
                  · simp only [OpenL, OpenS]
                    refine ⟨_, [], rfl, .inr (.inr ⟨H1.n, len, svs, rfl, by omega, ?_, l1, Heap.get_push_new _ _, fun i hi => (p1 i hi).mono (Sub.push _ _)⟩), rfl⟩
                    unfold maxLen at hcap
                    omega
            · cases hk
          · cases hk
        | _ => simp at hk

/-- An argument: whether it is a struct or an array, and its cells. -/
def OpenA (H : Heap) : List (Bool × List Sh) → List AV → Prop
  | [], l => l = []
  | (true, ks) :: r, l => ∃ svs l', l = .agg svs :: l' ∧ OpenL H ks svs ∧ OpenA H r l'
  | (false, ks) :: r, l => ∃ k s l', ks = [k] ∧ l = .sc s :: l' ∧ OpenS H k s ∧ OpenA H r l'

def shArgs (P : Program) : List TypeId → Option (List (Bool × List Sh))
  | [] => some []
  | t :: ts =>
    match shOf P 30 t, agg? P t, shArgs P ts with
    | some ks, some a, some l => if a.isSome || decide (ks.length = 1) then some ((a.isSome, ks) :: l) else none
    | _, _, _ => none

theorem agg?_some {t : TypeId} {n : Nat} (h : agg? P t = some (some n)) : (∃ fs, P.underlying t = some (.struct fs)) ∨ ∃ m e, P.underlying t = some (.array m e) := by
  unfold agg? at h
  split at h
  · rename_i fs h1; exact .inl ⟨fs, h1⟩
  · rename_i m e h1; exact .inr ⟨m, e, h1⟩
  · cases h
  · cases h

theorem OpenA.mono {H H' : Heap} (h : Sub H H') : ∀ {as : List (Bool × List Sh)} {l : List AV}, OpenA H as l → OpenA H' as l
  | [], _, r => r
  | (true, ks) :: r, l, p => by obtain ⟨svs, l', h1, h2, h3⟩ := p; exact ⟨svs, l', h1, h2.mono h, OpenA.mono h h3⟩
  | (false, ks) :: r, l, p => by obtain ⟨k, s, l', h0, h1, h2, h3⟩ := p; exact ⟨k, s, l', h0, h1, h2.mono h, OpenA.mono h h3⟩

theorem open_args {b0 : Nat} : ∀ {ts : List TypeId} {vs : List Value} {ds : List (DataW H0)} {ps : List MemPlace} {as : List (Bool × List Sh)}, DataW.TrodAll enc P W 0 (fun _ => true) true ts vs ds ps →
    (∀ (j : Nat) t v, ts[j]? = some t → vs[j]? = some v → Value.okWide P W .any b0 t v) → shArgs P ts = some as →
    ∀ ρ H, Opened P W ρ H → ∃ ρ' H' avs, Opened P W ρ' H' ∧ Ext ρ H ρ' H' ∧ Sub H H' ∧ LR (AVR ρ') avs vs ∧ OpenA H' as avs
  | [], vs, ds, ps, as, h, hok, hs, ρ, H, r => by
    obtain ⟨rfl, rfl, rfl⟩ := trodAll_nil h
    simp only [shArgs, Option.some.injEq] at hs; subst hs
    exact ⟨ρ, H, [], r, Ext.refl _ _, Sub.refl _, trivial, rfl⟩
  | t :: ts, vs, ds, ps, as, h, hok, hs, ρ, H, r => by
    cases vs with
    | nil => cases ds <;> exact h.elim
    | cons v vs =>
      cases ds with
      | nil => exact h.elim
      | cons d ds =>
        obtain ⟨p, q, ⟨fuel, h1⟩, h2, rfl⟩ := h
        unfold shArgs at hs
        split at hs
        · rename_i ks a l hks hag hl
          split at hs
          · rename_i hone
            cases hs
            obtain ⟨ρ1, H1, svs, o1, e1, b1, l1, p1⟩ := open_cells true fuel t _ _ _ _ h1 hks ρ H r
            obtain ⟨ρ2, H2, avs, o2, e2, b2, l2, p2⟩ := open_args h2 (fun j t' v' ht hv => hok (j + 1) t' v' (by simpa using ht) (by simpa using hv)) hl ρ1 H1 o1
            have hv := hok 0 t v rfl rfl
            cases a with
            | some n =>
              have : ∃ cs, v = .agg cs := by
                rcases agg?_some hag with ⟨fs, hu⟩ | ⟨m, e, hu⟩
                · unfold Value.okWide at hv; rw [hu] at hv; exact ⟨_, hv.choose_spec.1⟩
                · unfold Value.okWide at hv; rw [hu] at hv; exact ⟨_, hv.choose_spec.1⟩
              obtain ⟨cs, rfl⟩ := this
              refine ⟨ρ2, H2, .agg svs :: avs, o2, e1.trans e2, b1.trans b2, ⟨⟨cs.toList, by simp, ?_⟩, l2⟩, ⟨svs, avs, rfl, p1.mono b2, p2⟩⟩
              exact (l1.mono fun _ _ => SVR.mono e2.sub)
            | none =>
              simp only [Option.isSome_none, Bool.false_or, decide_eq_true_eq] at hone
              obtain ⟨k, rfl⟩ := List.length_eq_one_iff.1 hone
              simp only [OpenL] at p1
              obtain ⟨s, l', rfl, p3, rfl⟩ := p1
              have hva : ∀ cs, v ≠ .agg cs := by
                rintro cs rfl
                unfold Value.okWide at hv
                unfold agg? at hag
                cases hu : P.underlying t with
                | none => rw [hu] at hag; cases hag
                | some d' => rw [hu] at hag hv; cases d' <;> simp_all [Cell.okWide, Cell.ok]
              have hcells : v.cells.toList = [v] := by
                cases v <;> first | rfl | exact absurd rfl (hva _)
              rw [hcells] at l1
              refine ⟨ρ2, H2, .sc s :: avs, o2, e1.trans e2, b1.trans b2, ⟨l1.1.mono e2.sub, l2⟩, ⟨k, s, avs, rfl, rfl, p3.mono b2, p2⟩⟩
          · cases hs
        · cases hs

end

/-! ## package variables that a row lists -/

/-- Read-only cells in the place of a package variable. -/
theorem Opened.lay {P : Program} {W : World} {ρ : Rho} {H : Heap} (r : Opened P W ρ H) {g : Nat} {t ty' : TypeId} {c : Array Value} {fz : Nat × Nat} {cs : List SV} (hg : ρ g = some ⟨g, 0, 0⟩) (hb : W.heap[g]? = some (.cells c ty' fz))
    (hc : ∀ (i : Nat) (s : SV), cs[i]? = some s → ∃ v, c[i]? = some v ∧ SVR ρ s v) : Opened P W ρ (H.set g (.cells t .ro cs)) := by
  have hno : ∀ id o, (H.set g (.cells t .ro cs)).get id = some o → ¬ o.owned := by
    intro id o h
    rw [Heap.get_set r.rel.wf] at h
    split at h
    · cases h; exact fun hh => hh rfl
    · exact r.none _ _ h
  refine ⟨⟨r.rel.below, Heap.set_wf r.rel.wf _ _, ?_, ?_, ?_⟩, hno⟩
  · intro id u e; rw [Heap.set_n]; exact r.rel.dom _ _ e
  · intro id u o e he
    rw [Heap.get_set r.rel.wf] at he
    split at he
    · rename_i hh
      cases he
      rw [hh.1, hg] at e
      cases e
      exact ⟨c, ty', fz, hb, fun i s hi => by rw [Nat.zero_add]; exact hc i s hi, fun h => absurd rfl h, fun h => by cases h⟩
    · exact r.rel.objs _ _ _ e he
  · intro id id' u u' o o' _ _ _ h1 _ ow _
    exact absurd ow (hno _ _ h1)

mutual
/-- A datum that is nothing but letters. -/
def litsOf : DataW Unit → Option (List SV)
  | .lit (.bool b) => some [.bool b]
  | .lit (.int k n) => some [.int k n]
  | .lit (.string s) => some [.str s]
  | .agg ps => litsAll ps
  | _ => none
def litsAll : List (DataW Unit) → Option (List SV)
  | [] => some []
  | d :: r => match litsOf d, litsAll r with
    | some a, some b => some (a ++ b)
    | _, _ => none
end

section
variable {P : Program} {W : World} {ρ : Rho}

def LitsOk (P : Program) (W : World) (ρ : Rho) (held : Bool) (fuel : Nat) : Prop :=
  ∀ (t : TypeId) (cs : List Value) (x : DataW Unit × List MemPlace) (k : Nat) (ks : List Sh) (svs : List SV), DataW.trod (fun _ => ()) P W 0 (fun _ => true) held fuel t cs = some x → shOf P k t = some ks → litsOf x.1 = some svs → LR (SVR ρ) svs cs ∧ cs.length = ks.length

theorem lits_fields {held : Bool} {n k : Nat} (ih : LitsOk P W ρ held n) {cs : List Value} : ∀ (l : List Field) (o : Nat) (ks : List Sh) (ds : List (DataW Unit)) (svs : List SV),
    LR (fun (f : Field) d => ∃ p, DataW.trod (fun _ => ()) P W 0 (fun _ => true) held n f.type ((cs.drop f.offset).take (P.cellsOf f.type)) = some (d, p)) l ds → shGo P (shOf P k) l o = some ks → litsAll ds = some svs →
    LR (SVR ρ) svs ((cs.drop o).take ks.length)
  | [], o, ks, [], svs, hx, hk, hs => by
    simp only [shGo, Option.some.injEq] at hk; subst hk
    simp only [litsAll, Option.some.injEq] at hs; subst hs
    trivial
  | [], o, ks, _ :: _, svs, hx, hk, hs => hx.elim
  | _ :: _, o, ks, [], svs, hx, hk, hs => hx.elim
  | f :: l, o, ks, d :: ds, svs, hx, hk, hs => by
    unfold shGo at hk
    split at hk
    · cases hk
    · rename_i ho
      split at hk
      · rename_i k1 hk1
        split at hk
        · rename_i hlen
          simp only [Option.map_eq_some_iff] at hk
          obtain ⟨k2, hk2, rfl⟩ := hk
          have ho' : f.offset = o := by simpa using ho
          unfold litsAll at hs
          split at hs
          · rename_i a b ha hb
            cases hs
            obtain ⟨⟨p, hx1⟩, hx2⟩ := hx
            rw [ho', hlen] at hx1
            have h1 := (ih _ _ _ _ _ _ hx1 hk1 ha).1
            rw [List.length_append, List.take_add, List.drop_drop]
            exact h1.append (lits_fields ih l _ k2 ds b hx2 hk2 hb)
          · cases hs
        · cases hk
      · cases hk

theorem lits_elems {held : Bool} {n k : Nat} (ih : LitsOk P W ρ held n) {cs : List Value} {e : TypeId} {k1 : List Sh} (hk : shOf P k e = some k1) : ∀ (m o : Nat) (ds : List (DataW Unit)) (svs : List SV), ds.length = m →
    (∀ i, i < m → ∃ d p, ds[i]? = some d ∧ DataW.trod (fun _ => ()) P W 0 (fun _ => true) held n e ((cs.drop ((o + i) * k1.length)).take k1.length) = some (d, p)) → litsAll ds = some svs →
    LR (SVR ρ) svs ((cs.drop (o * k1.length)).take (m * k1.length))
  | 0, o, ds, svs, hl, hx, hs => by
    have : ds = [] := List.length_eq_zero_iff.1 hl
    subst this
    simp only [litsAll, Option.some.injEq] at hs; subst hs
    rw [Nat.zero_mul, List.take_zero]; trivial
  | m + 1, o, ds, svs, hl, hx, hs => by
    cases ds with
    | nil => simp at hl
    | cons d ds =>
      unfold litsAll at hs
      split at hs
      · rename_i a b ha hb
        cases hs
        obtain ⟨d', p, hd, h1⟩ := hx 0 (by omega)
        simp only [List.getElem?_cons_zero, Option.some.injEq] at hd; subst hd
        have h2 := (ih _ _ _ _ _ _ h1 hk ha).1
        rw [Nat.succ_mul, Nat.add_comm (m * _), List.take_add, List.drop_drop]
        refine h2.append ?_
        have := lits_elems ih hk m (o + 1) ds b (by simpa using hl) (fun i hi => by
          obtain ⟨d2, p2, h3, h4⟩ := hx (i + 1) (by omega)
          refine ⟨d2, p2, by simpa using h3, ?_⟩
          rw [show o + 1 + i = o + (i + 1) by omega]; exact h4) hb
        rw [Nat.succ_mul] at this
        exact this
      · cases hs

theorem lits_ok (held : Bool) : ∀ fuel, LitsOk P W ρ held fuel := by
  intro fuel
  induction fuel with
  | zero => intro t cs x k ks svs h; simp [DataW.trod] at h
  | succ fuel ih =>
    intro t cs x k ks svs h hk hs
    cases k with
    | zero => simp [shOf] at hk
    | succ k =>
      unfold shOf at hk
      cases ht : P.underlying t with
      | none => rw [ht] at hk; cases hk
      | some ty =>
        rw [ht] at hk
        cases ty with
        | int q =>
          simp only [Option.some.injEq] at hk; subst hk
          obtain ⟨n, rfl, rfl, h4⟩ := DataW.trod_int ht h
          simp only [litsOf, Option.some.injEq] at hs; subst hs
          exact ⟨⟨rfl, trivial⟩, rfl⟩
        | bool =>
          simp only [Option.some.injEq] at hk; subst hk
          obtain ⟨b, rfl, rfl⟩ := DataW.trod_bool ht h
          simp only [litsOf, Option.some.injEq] at hs; subst hs
          exact ⟨⟨rfl, trivial⟩, rfl⟩
        | string =>
          simp only [Option.some.injEq] at hk; subst hk
          obtain ⟨s, rfl, rfl, _⟩ := DataW.trod_string ht h
          simp only [litsOf, Option.some.injEq] at hs; subst hs
          exact ⟨⟨by simp [SVR], trivial⟩, rfl⟩
        | struct fs =>
          simp only at hk
          split at hk
          · rename_i ks' hgo
            split at hk
            · rename_i hlen
              cases hk
              obtain ⟨xs, n, hn, rfl, hl, hxs, hf⟩ := DataW.trod_struct ht h
              cases hn
              simp only [litsOf] at hs
              have := lits_fields (cs := cs) ih fs.toList 0 ks (xs.map (·.1)) svs (LR.of_get (by simpa using hxs.symm) (fun i f d hf1 hd => by
                have h1 : fs[i]? = some f := by rw [← Array.getElem?_toList]; exact hf1
                rw [hf i f h1]
                rw [List.getElem?_map, Option.map_eq_some_iff] at hd
                obtain ⟨y, hy, rfl⟩ := hd
                exact ⟨y.2, hy⟩)) hgo hs
              rw [List.drop_zero, List.take_of_length_le (by omega)] at this
              exact ⟨this, by omega⟩
            · cases hk
          · cases hk
        | array n e =>
          simp only at hk
          split at hk
          · rename_i k1 hk1
            split at hk
            · rename_i hlen
              cases hk
              have h' := h
              unfold DataW.trod at h'
              rw [ht] at h'
              simp only at h'
              split at h'
              · rename_i hl
                simp only [Option.map_eq_some_iff] at h'
                obtain ⟨xs, h1, rfl⟩ := h'
                simp only [litsOf] at hs
                obtain ⟨h2, h3⟩ := mapM_range h1
                have := lits_elems (cs := cs) ih hk1 n 0 (xs.map (·.1)) svs (by simpa using h2) (fun i hi => by
                  have h4 := h3 i hi
                  rw [List.getElem?_eq_getElem (by omega), hlen.1] at h4
                  exact ⟨xs[i].1, xs[i].2, by rw [List.getElem?_map, List.getElem?_eq_getElem (by omega)]; rfl, by rw [Nat.zero_add]; exact h4⟩) hs
                rw [Nat.zero_mul, List.drop_zero, List.take_of_length_le (by rw [hl, hlen.2]; exact Nat.le_refl _)] at this
                exact ⟨this, by rw [hl, hlen.2]; simp⟩
              · cases h'
            · cases hk
          · cases hk
        | slice e =>
          rcases DataW.trod_slice ht h with ⟨rfl, rfl⟩ | ⟨a, len, cap, elems, rest, n, hn, rfl, rfl, _⟩
          · simp [litsOf] at hs
          · simp [litsOf] at hs
        | _ => simp at hk

/-- Where the listed variables stand, and their cells. -/
def laidAt (P : Program) : List (String × DataW Unit) → Option (List (Nat × TypeId × List SV))
  | [] => some []
  | (n, d) :: r =>
    match P.globalNamed n, litsOf d, laidAt P r with
    | some g, some svs, some l =>
      (match (P.globals[g]?).map (·.type) with
      | some t => if (shOf P 30 t).isSome ∧ g < P.globals.size then some ((g, t, svs) :: l) else none
      | none => none)
    | _, _, _ => none

def layAll : List (Nat × TypeId × List SV) → Heap → Heap
  | [], H => H
  | x :: r, H => layAll r (H.set x.1 (.cells x.2.1 .ro x.2.2))

theorem laid_opened : ∀ {laid : List (String × DataW Unit)} {ps : List MemPlace} {ls : List (Nat × TypeId × List SV)} {H : Heap}, DataW.LaidVars P W laid ps → laidAt P laid = some ls → Opened P W (rho0 P.globals.size) H → Opened P W (rho0 P.globals.size) (layAll ls H)
  | [], ps, ls, H, _, h, r => by simp only [laidAt, Option.some.injEq] at h; subst h; exact r
  | (n, d) :: l, ps, ls, H, hv, h, r => by
    obtain ⟨g, t, cs, fuel, p, q, h1, h2, h3, h4, h5, h6⟩ := hv
    unfold laidAt at h
    rw [h1] at h
    split at h
    · rename_i g' svs l' hg hd hl
      simp only [Option.some.injEq] at hg
      subst hg
      rw [h2] at h
      simp only at h
      split at h
      · rename_i hh
        cases h
        obtain ⟨ks, hks⟩ := Option.isSome_iff_exists.1 hh.1
        obtain ⟨hlr, _⟩ := lits_ok (ρ := rho0 P.globals.size) false fuel _ _ _ _ _ _ h4 hks hd
        unfold World.var? at h3
        rw [h1] at h3
        simp only [Option.bind_some] at h3
        split at h3
        · rename_i c ty fz hb
          cases h3
          have := laid_opened h5 hl (r.lay (t := t) (cs := svs) (by simp [rho0, hh.2]) hb (fun i s hi => by
            obtain ⟨v, hv1, hv2⟩ := hlr.get hi
            exact ⟨v, by rw [← Array.getElem?_toList]; exact hv1, hv2⟩))
          exact this
        · cases h3
      · cases h
    · cases h

end

theorem opened0 (P : Program) (W : World) (G : Nat) : Opened P W (rho0 G) (H0 G) := ⟨rel0 P W G, fun id o h => by rw [H0_get G id o h]; exact fun hh => hh⟩

/-- The memory that a law finds: the listed variables, and nothing else that is known. -/
def HL (G : Nat) (ls : List (Nat × TypeId × List SV)) : Heap := layAll ls (H0 G)

def LaidOk (P : Program) (W : World) (ls : List (Nat × TypeId × List SV)) : Prop := Opened P W (rho0 P.globals.size) (HL P.globals.size ls)

theorem laidOk_nil (P : Program) (W : World) : LaidOk P W [] := opened0 P W _
theorem laidOk_of {P : Program} {W : World} {laid : List (String × DataW Unit)} {ls : List (Nat × TypeId × List SV)} (h : laidMet P laid W) (hl : laidAt P laid = some ls) : LaidOk P W ls := by
  obtain ⟨ps, h1, _⟩ := h
  exact laid_opened h1 hl (opened0 P W _)

/-- It holds as long as what was there stays. -/
theorem LaidOk.later {P : Program} {w0 w : World} {ls : List (Nat × TypeId × List SV)} (h : LaidOk P w0 ls) (hb : Below w0.heap.size w0 w) : LaidOk P w ls := by
  have r := Rel.later h.rel hb
  refine ⟨⟨Below.refl _ _, r.wf, r.dom, fun id t o h1 h2 => ?_, fun id id' t t' o o' _ _ _ h3 _ ow _ => absurd ow (h.none _ _ h3)⟩, h.none⟩
  have h3 := r.objs id t o h1 h2
  cases o with
  | dead => trivial
  | cells ty k cs =>
    obtain ⟨c, ty', fz, a1, a2, a3, a4⟩ := h3
    have hk : k = .ro := Classical.byContradiction fun hk => h.none _ _ h2 hk
    exact ⟨c, ty', fz, a1, a2, fun hh => absurd hk hh, fun hh => by rw [hk] at hh; cases hh⟩
  | iter s p => exact absurd trivial (h.none _ _ h2)

theorem layAll_wf : ∀ (ls : List (Nat × TypeId × List SV)) {H : Heap}, H.l.length = H.n → (layAll ls H).l.length = (layAll ls H).n
  | [], H, h => h
  | x :: r, H, h => layAll_wf r (Heap.set_wf h _ _)

/-- A law without arguments, by computing. -/
theorem calls_closed' {P : Program} {X : Exts} {D : Nat → Option MFunc} {f : Nat} {ls : List (Nat × TypeId × List SV)} (hX : ExtOk P X) {W : World} (hD : FunOk P W X D) (hl : LaidOk P W ls) {n : Nat} {x : Ex} {v : AV} {H' : Heap} (h : run D n (.call f [] (HL P.globals.size ls)) = some (x, [v], H')) :
    Calls P f #[] W fun e W' => ∃ ρ' u, e = .returned u ∧ AVR ρ' v u ∧ Below W.heap.size W W' := by
  have := (all_ok (w0 := W) hX hD n).2.2.2 f [] _ x v H' h _ W [] hl.rel (fun g hg => by simp [rho0, hg]) trivial
  exact this.mono fun e W' ⟨ρ', u, h1, h2, h3, _⟩ => ⟨ρ', u, h1, h2, h3.below⟩

/-- A law, by what the plain machine answers at all that it may be handed. -/
theorem calls_law {P : Program} {X : Exts} {D : Nat → Option MFunc} {f b0 : Nat} {ls : List (Nat × TypeId × List SV)} (hX : ExtOk P X) {W : World} (hD : FunOk P W X D) (hl : LaidOk P W ls) {ts : List TypeId} {shs : List (Bool × List Sh)} (has : shArgs P ts = some shs)
    {T : Type} {enc : TypeId × Value → T} {args : Array Value} {ds : List (DataW T)} {ps : List MemPlace} (hA : DataW.TrodAll enc P W 0 (fun _ => true) true ts args.toList ds ps)
    (hok : ∀ (j : Nat) t v, ts[j]? = some t → args.toList[j]? = some v → Value.okWide P W .any b0 t v)
    (hw : ∀ (H : Heap) (avs : List AV), H.l.length = H.n → Sub (HL P.globals.size ls) H → OpenA H shs avs → ∃ n x H', run D n (.call f avs H) = some (x, [.sc (.bool true)], H')) :
    Calls P f args W fun e W' => e = .returned (.bool true) ∧ Below W.heap.size W W' := by
  obtain ⟨ρ, H, avs, o, e, b, l, p⟩ := open_args hA hok has _ _ hl
  obtain ⟨n, x, H', hr⟩ := hw H avs o.rel.wf b p
  have := (all_ok (w0 := W) hX hD n).2.2.2 f avs H x _ H' hr ρ W args.toList o.rel (fun g hg => e.sub _ _ (by simp [rho0, hg])) l
  rw [Array.toArray_toList] at this
  exact this.mono fun e W' ⟨ρ', u, h1, h2, h3, _⟩ => ⟨by rw [h1]; exact congrArg _ h2, h3.below⟩

theorem closed_of_map' {D : Nat → Option MFunc} {f n : Nat} {H : Heap} (h : (run D n (.call f [] H)).map (fun o => o.2.1) = some [.sc (.bool true)]) : ∃ x H', run D n (.call f [] H) = some (x, [.sc (.bool true)], H') := by
  rw [Option.map_eq_some_iff] at h
  obtain ⟨⟨x, e, H'⟩, h1, h2⟩ := h
  simp only at h2
  subst h2
  exact ⟨x, H', h1⟩

/-- Closed functions of which it is known that they answer true. -/
def withKnown (K : List Nat) (D : Nat → Option MFunc) : Nat → Option MFunc := fun f => if K.contains f then some knownM else D f

theorem withKnown_ok {P : Program} {X : Exts} {D : Nat → Option MFunc} {w0 : World} {K : List Nat} (hD : FunOk P w0 X D) (h0 : ∀ f ∈ K, X f = 0) (hK : ∀ f ∈ K, ∀ w, Below w0.heap.size w0 w → Calls P f #[] w fun en w' => en = .returned (.bool true) ∧ Below w.heap.size w w') : FunOk P w0 X (withKnown K D) := by
  intro f m h
  unfold withKnown at h
  split at h
  · rename_i hc
    cases h
    have hm : f ∈ K := by simpa using hc
    exact ⟨h0 f hm, .inr ⟨rfl, hK f hm⟩⟩
  · exact hD f m h

theorem only_at (L : List Nat) (v g : Nat) (h : (L.zipIdx.all fun x => x.1 != v || x.2 == g) = true) (hv : (v == 9) = false) {f : Nat} (hf : L.getD f 9 = v) : f = g := by
  cases hx : L[f]? with
  | none => rw [List.getD_eq_getElem?_getD, hx] at hf; subst hf; simp at hv
  | some a =>
    rw [List.getD_eq_getElem?_getD, hx] at hf
    simp only [Option.getD_some] at hf
    subst hf
    have hm : (a, f) ∈ L.zipIdx := by rw [List.mem_zipIdx_iff_getElem?]; exact hx
    have := List.all_eq_true.1 h _ hm
    simpa using this

/-- Lists of chunks. -/
theorem chunks {α : Type} {enc : α → List SV} {R : α → Prop} {n : Nat} (hn : ∀ a, (enc a).length = n) : ∀ (len : Nat) (cs : List SV), cs.length = len * n → (∀ i, i < len → ∃ a, (cs.drop (i * n)).take n = enc a ∧ R a) →
    ∃ L : List α, L.length = len ∧ cs = L.flatMap enc ∧ ∀ a ∈ L, R a
  | 0, cs, hl, h => ⟨[], rfl, by simpa using hl, by simp⟩
  | len + 1, cs, hl, h => by
    obtain ⟨a, h1, h2⟩ := h 0 (by omega)
    simp only [Nat.zero_mul, List.drop_zero] at h1
    obtain ⟨L, h3, h4, h5⟩ := chunks hn len (cs.drop n) (by rw [List.length_drop, hl, Nat.succ_mul]; omega) (fun i hi => by
      obtain ⟨b, h6, h7⟩ := h (i + 1) (by omega)
      refine ⟨b, ?_, h7⟩
      rw [← h6, List.drop_drop, Nat.succ_mul, Nat.add_comm])
    refine ⟨a :: L, by simp [h3], ?_, ?_⟩
    · rw [List.flatMap_cons, ← h1, ← h4, List.take_append_drop]
    · intro b hb
      rcases List.mem_cons.1 hb with rfl | hb
      · exact h2
      · exact h5 b hb

end Go.Jx
