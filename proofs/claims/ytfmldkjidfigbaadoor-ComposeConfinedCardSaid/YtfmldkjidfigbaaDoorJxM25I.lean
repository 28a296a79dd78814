import Derived.Test.YtfmldkjidfigbaaDoorJxOpen
import Derived.Test.YtfmldkjidfigbaaDoorJxM25H
/-
  What a law is handed, with how much memory it takes: slices have at most 'reachBytes' bytes.
-/
set_option linter.unusedVariables false
set_option linter.unusedSimpArgs false
namespace Go.Jx
open Go Go.RowKit Go.WideShapes Go.ChangeShapes Go.ChangeAt

section
variable (B : TypeId → Nat)
mutual
def OpenS2 (H : Heap) : Sh → SV → Prop
  | .int k, v => ∃ n, v = .int k n ∧ k.min ≤ n ∧ n ≤ k.max
  | .bool, v => ∃ b, v = .bool b
  | .str, v => ∃ s, v = .str s ∧ s.length ≤ 2 ^ 63 - 1
  | .slice e n el, v => v = .nils ∨ v = .eslice false ∨
      ∃ id len cs, v = .slice id 0 len len ∧ 0 < len ∧ (len ≤ 2 ^ 63 - 1 ∧ len * B e ≤ reachBytes) ∧ cs.length = len * n ∧ H.get id = some (.cells e .ro cs) ∧ ∀ i, i < len → OpenL2 H el ((cs.drop (i * n)).take n)
def OpenL2 (H : Heap) : List Sh → List SV → Prop
  | [], l => l = []
  | s :: r, l => ∃ v l', l = v :: l' ∧ OpenS2 H s v ∧ OpenL2 H r l'
end
end
section
variable {B : TypeId → Nat}
mutual
theorem OpenS2.mono {H H' : Heap} (h : Sub H H') : ∀ (s : Sh) (v : SV), OpenS2 B H s v → OpenS2 B H' s v
  | .int k, v, r => by simp only [OpenS2] at r ⊢; exact r
  | .bool, v, r => by simp only [OpenS2] at r ⊢; exact r
  | .str, v, r => by simp only [OpenS2] at r ⊢; exact r
  | .slice e n el, v, r => by
    simp only [OpenS2] at r ⊢
    rcases r with r | r | ⟨id, len, cs, h1, h2, h3, h4, h5, h6⟩
    · exact .inl r
    · exact .inr (.inl r)
    · exact .inr (.inr ⟨id, len, cs, h1, h2, h3, h4, h.2 _ _ h5, fun i hi => OpenL2.mono h el _ (h6 i hi)⟩)
theorem OpenL2.mono {H H' : Heap} (h : Sub H H') : ∀ (s : List Sh) (l : List SV), OpenL2 B H s l → OpenL2 B H' s l
  | [], l, r => by simp only [OpenL2] at r ⊢; exact r
  | s :: rs, l, r => by
    simp only [OpenL2] at r ⊢
    obtain ⟨v, l', h1, h2, h3⟩ := r
    exact ⟨v, l', h1, OpenS2.mono h s v h2, OpenL2.mono h rs l' h3⟩
end

theorem OpenL2.length {H : Heap} : ∀ {s : List Sh} {l : List SV}, OpenL2 B H s l → l.length = s.length
  | [], l, r => by simp only [OpenL2] at r; simp [r]
  | s :: rs, l, r => by
    simp only [OpenL2] at r
    obtain ⟨v, l', rfl, _, h3⟩ := r
    simp [OpenL2.length h3]
theorem OpenL2.append {H : Heap} : ∀ {s s' : List Sh} {l l' : List SV}, OpenL2 B H s l → OpenL2 B H s' l' → OpenL2 B H (s ++ s') (l ++ l')
  | [], s', l, l', r, r' => by simp only [OpenL2] at r; subst r; exact r'
  | s :: rs, s', l, l', r, r' => by
    simp only [OpenL2] at r
    obtain ⟨v, l1, rfl, h2, h3⟩ := r
    simp only [List.cons_append, OpenL2]
    exact ⟨v, _, rfl, h2, OpenL2.append h3 r'⟩

end

/-- What a datum weighs may be had. -/
def WOk {T : Type} (P : Program) (t : TypeId) (d : DataW T) : Prop := ∀ n ∈ d.weights P t, n ≤ reachBytes
theorem weightsEach_get {T : Type} {P : Program} : ∀ {ts : List TypeId} {ds : List (DataW T)}, (∀ n ∈ DataW.weightsEach P ts ds, n ≤ reachBytes) → ∀ (i : Nat) t d, ts[i]? = some t → ds[i]? = some d → WOk P t d
  | [], ds, h, i, t, d, ht, hd => by simp at ht
  | t0 :: ts, [], h, i, t, d, ht, hd => by simp at hd
  | t0 :: ts, d0 :: ds, h, 0, t, d, ht, hd => by
    simp only [List.getElem?_cons_zero, Option.some.injEq] at ht hd
    subst ht; subst hd
    intro n hn
    exact h n (by unfold DataW.weightsEach; exact List.mem_append.2 (.inl hn))
  | t0 :: ts, d0 :: ds, h, i + 1, t, d, ht, hd => by
    refine weightsEach_get (ts := ts) (ds := ds) (fun n hn => h n ?_) i t d (by simpa using ht) (by simpa using hd)
    unfold DataW.weightsEach; exact List.mem_append.2 (.inr hn)
theorem weightsAll_get {T : Type} {P : Program} {e : TypeId} : ∀ {ds : List (DataW T)}, (∀ n ∈ DataW.weightsAll P e ds, n ≤ reachBytes) → ∀ (i : Nat) d, ds[i]? = some d → WOk P e d
  | [], h, i, d, hd => by simp at hd
  | d0 :: ds, h, 0, d, hd => by
    simp only [List.getElem?_cons_zero, Option.some.injEq] at hd
    subst hd
    intro n hn
    exact h n (by unfold DataW.weightsAll; exact List.mem_append.2 (.inl hn))
  | d0 :: ds, h, i + 1, d, hd => by
    refine weightsAll_get (ds := ds) (fun n hn => h n ?_) i d (by simpa using hd)
    unfold DataW.weightsAll; exact List.mem_append.2 (.inr hn)

section
variable {H0 : Type} {enc : TypeId × Value → H0} {P : Program} {W : World}

def OpensTo2 (P : Program) (W : World) (ρ : Rho) (H : Heap) (ks : List Sh) (cs : List Value) : Prop :=
  ∃ ρ' H' svs, Opened P W ρ' H' ∧ Ext ρ H ρ' H' ∧ Sub H H' ∧ LR (SVR ρ') svs cs ∧ OpenL2 P.bytesOf H' ks svs

theorem OpensTo2.append {ρ : Rho} {H : Heap} {ks ks' : List Sh} {cs cs' : List Value} (h : OpensTo2 P W ρ H ks cs) (h' : ∀ ρ H, Opened P W ρ H → OpensTo2 P W ρ H ks' cs') : OpensTo2 P W ρ H (ks ++ ks') (cs ++ cs') := by
  obtain ⟨ρ1, H1, s1, o1, e1, b1, l1, p1⟩ := h
  obtain ⟨ρ2, H2, s2, o2, e2, b2, l2, p2⟩ := h' ρ1 H1 o1
  exact ⟨ρ2, H2, s1 ++ s2, o2, e1.trans e2, b1.trans b2, (l1.mono fun _ _ => SVR.mono e2.sub).append l2, (p1.mono b2).append p2⟩

theorem OpensTo2.nil {ρ : Rho} {H : Heap} (r : Opened P W ρ H) : OpensTo2 P W ρ H [] [] := ⟨ρ, H, [], r, Ext.refl _ _, Sub.refl _, trivial, by simp [OpenL2]⟩
theorem OpensTo2.one {ρ : Rho} {H : Heap} (r : Opened P W ρ H) {k : Sh} {s : SV} {v : Value} (h1 : SVR ρ s v) (h2 : OpenS2 P.bytesOf H k s) : OpensTo2 P W ρ H [k] [v] :=
  ⟨ρ, H, [s], r, Ext.refl _ _, Sub.refl _, ⟨h1, trivial⟩, by simp only [OpenL2]; exact ⟨s, [], rfl, h2, rfl⟩⟩

/-- Opening for all types and all cells, with so much fuel. -/
def Opens2 (enc : TypeId × Value → H0) (P : Program) (W : World) (held : Bool) (fuel : Nat) : Prop :=
  ∀ (t : TypeId) (cs : List Value) (x : DataW H0 × List MemPlace) (k : Nat) (ks : List Sh), DataW.trod enc P W 0 (fun _ => true) held fuel t cs = some x → WOk P t x.1 → shOf P k t = some ks →
    ∀ ρ H, Opened P W ρ H → OpensTo2 P W ρ H ks cs

theorem opens2_fields {held : Bool} {n k : Nat} (ih : Opens2 enc P W held n) {cs : List Value} : ∀ (l : List Field) (o : Nat) (ks : List Sh),
    (∀ f ∈ l, ∃ x, DataW.trod enc P W 0 (fun _ => true) held n f.type ((cs.drop f.offset).take (P.cellsOf f.type)) = some x ∧ WOk P f.type x.1) → shGo P (shOf P k) l o = some ks →
    ∀ ρ H, Opened P W ρ H → OpensTo2 P W ρ H ks ((cs.drop o).take ks.length)
  | [], o, ks, hx, hk, ρ, H, r => by
    simp only [shGo, Option.some.injEq] at hk; subst hk
    exact OpensTo2.nil r
  | f :: l, o, ks, hx, hk, ρ, H, r => by
    unfold shGo at hk
    split at hk
    · cases hk
    · rename_i ho
      split at hk
      · rename_i k1 hk1
        split at hk
        · rename_i hlen
          simp only [Option.map_eq_some_iff] at hk
          obtain ⟨k2, hk2, rfl⟩ := hk
          have ho' : f.offset = o := by simpa using ho
          obtain ⟨x, hx1, hw1⟩ := hx f (by simp)
          rw [ho', hlen] at hx1
          have h1 := ih _ _ _ _ _ hx1 hw1 hk1 ρ H r
          rw [List.length_append, List.take_add, List.drop_drop]
          exact h1.append fun ρ' H' r' => opens2_fields ih l _ k2 (fun g hg => hx g (by simp [hg])) hk2 ρ' H' r'
        · cases hk
      · cases hk

theorem opens2_elems {held : Bool} {n k : Nat} (ih : Opens2 enc P W held n) {cs : List Value} {e : TypeId} {k1 : List Sh} (hk : shOf P k e = some k1) : ∀ (m : Nat),
    (∀ i, i < m → ∃ x, DataW.trod enc P W 0 (fun _ => true) held n e ((cs.drop (i * k1.length)).take k1.length) = some x ∧ WOk P e x.1) →
    ∀ ρ H, Opened P W ρ H → OpensTo2 P W ρ H (List.replicate m k1).flatten (cs.take (m * k1.length))
  | 0, hx, ρ, H, r => by simpa using OpensTo2.nil r
  | m + 1, hx, ρ, H, r => by
    have h1 := opens2_elems ih hk m (fun i hi => hx i (by omega)) ρ H r
    rw [List.replicate_succ', List.flatten_concat, Nat.succ_mul, List.take_add]
    refine h1.append fun ρ' H' r' => ?_
    obtain ⟨x, hx1, hw1⟩ := hx m (by omega)
    exact ih _ _ _ _ _ hx1 hw1 hk ρ' H' r'

theorem opens2_slots {held : Bool} {n k : Nat} (ih : Opens2 enc P W held n) {a : Addr} {e : TypeId} {k1 : List Sh} (hk : shOf P k e = some k1) (hpos : 0 < k1.length) {c : Array Value} {ty : TypeId} {fz : Nat × Nat} (hb : W.heap[a.block]? = some (.cells c ty fz)) : ∀ (m : Nat),
    (∀ i, i < m → ∃ x, (W.cells? 0 (a.add (i * k1.length)) k1.length).bind (DataW.trod enc P W 0 (fun _ => true) held n e) = some x ∧ WOk P e x.1) →
    ∀ ρ H, Opened P W ρ H → ∃ (ρ' : Rho) (H' : Heap) (svs : List SV), Opened P W ρ' H' ∧ Ext ρ H ρ' H' ∧ Sub H H' ∧ svs.length = m * k1.length ∧
      (∀ (i : Nat) (s : SV), svs[i]? = some s → ∃ v, c[a.off + i]? = some v ∧ SVR ρ' s v) ∧ ∀ i, i < m → OpenL2 P.bytesOf H' k1 ((svs.drop (i * k1.length)).take k1.length)
  | 0, hx, ρ, H, r => ⟨ρ, H, [], r, Ext.refl _ _, Sub.refl _, by simp, fun i s h => by simp at h, fun i hi => by omega⟩
  | m + 1, hx, ρ, H, r => by
    obtain ⟨ρ1, H1, s1, o1, e1, b1, l1, c1, p1⟩ := opens2_slots ih hk hpos hb m (fun i hi => hx i (by omega)) ρ H r
    obtain ⟨x, hx1, hw1⟩ := hx m (by omega)
    rw [Option.bind_eq_some_iff] at hx1
    obtain ⟨ecs, h1, h2⟩ := hx1
    obtain ⟨ρ2, H2, s2, o2, e2, b2, l2, p2⟩ := ih _ _ _ _ _ h2 hw1 hk ρ1 H1 o1
    obtain ⟨c', ty', fz', hb', hl', hq', _⟩ := cells?_spec hpos h1
    rw [hb] at hb'
    cases hb'
    have hs2 : s2.length = k1.length := by rw [l2.length, hl']
    refine ⟨ρ2, H2, s1 ++ s2, o2, e1.trans e2, b1.trans b2, by rw [List.length_append, l1, hs2, Nat.succ_mul], fun i s hs => ?_, fun i hi => ?_⟩
    · by_cases hlt : i < s1.length
      · rw [List.getElem?_append_left hlt] at hs
        obtain ⟨v, h3, h4⟩ := c1 i s hs
        exact ⟨v, h3, h4.mono e2.sub⟩
      · rw [List.getElem?_append_right (by omega)] at hs
        obtain ⟨v, h3, h4⟩ := l2.get hs
        have hlt2 : i - s1.length < k1.length := by rw [← hs2]; exact (List.getElem?_eq_some_iff.1 hs).1
        refine ⟨v, ?_, h4⟩
        rw [← h3, ← hq' _ hlt2]
        congr 1
        omega
    · by_cases him : i < m
      · have hle : i * k1.length + k1.length ≤ s1.length := by
          rw [l1]
          calc i * k1.length + k1.length = (i + 1) * k1.length := by rw [Nat.succ_mul]
            _ ≤ m * k1.length := Nat.mul_le_mul_right _ him
        rw [List.drop_append_of_le_length (by omega), List.take_append_of_le_length (by rw [List.length_drop]; omega)]
        exact (p1 i him).mono b2
      · obtain rfl : i = m := by omega
        rw [← l1, List.drop_left, ← hs2, List.take_length]
        exact p2

theorem trod_array2 {held : Bool} {n : Nat} {t e : TypeId} {m : Nat} {cs : List Value} {x : DataW H0 × List MemPlace} (ht : P.underlying t = some (.array m e)) (h : DataW.trod enc P W 0 (fun _ => true) held (n + 1) t cs = some x) (hw : WOk P t x.1) :
    cs.length = P.cellsOf t ∧ ∀ i, i < m → ∃ y, DataW.trod enc P W 0 (fun _ => true) held n e ((cs.drop (i * P.cellsOf e)).take (P.cellsOf e)) = some y ∧ WOk P e y.1 := by
  unfold DataW.trod at h
  rw [ht] at h
  simp only at h
  split at h
  · rename_i hl
    simp only [Option.map_eq_some_iff] at h
    obtain ⟨xs, h1, h9⟩ := h
    refine ⟨hl, fun i hi => ?_⟩
    obtain ⟨h2, h3⟩ := mapM_range h1
    rw [h3 i hi]
    refine ⟨xs[i]'(by omega), List.getElem?_eq_getElem (by omega), ?_⟩
    subst h9
    unfold WOk DataW.weights at hw
    rw [ht] at hw
    exact weightsAll_get hw i _ (by rw [List.getElem?_map, List.getElem?_eq_getElem (by omega)]; rfl)
  · cases h

theorem open2_cells (held : Bool) : ∀ fuel, Opens2 enc P W held fuel := by
  intro fuel
  induction fuel with
  | zero => intro t cs x k ks h; simp [DataW.trod] at h
  | succ fuel ih =>
    intro t cs x k ks h hw hk ρ H r
    cases k with
    | zero => simp [shOf] at hk
    | succ k =>
      unfold shOf at hk
      cases ht : P.underlying t with
      | none => rw [ht] at hk; cases hk
      | some ty =>
        rw [ht] at hk
        cases ty with
        | int q =>
          simp only [Option.some.injEq] at hk; subst hk
          obtain ⟨n, rfl, _, h4⟩ := DataW.trod_int ht h
          simp only [Lit.wf, Bool.and_eq_true, decide_eq_true_eq] at h4
          exact OpensTo2.one r (s := .int q n) rfl (by simp only [OpenS2]; exact ⟨n, rfl, h4.1, h4.2⟩)
        | bool =>
          simp only [Option.some.injEq] at hk; subst hk
          obtain ⟨b, rfl, _⟩ := DataW.trod_bool ht h
          exact OpensTo2.one r (s := .bool b) rfl (by simp only [OpenS2]; exact ⟨b, rfl⟩)
        | string =>
          simp only [Option.some.injEq] at hk; subst hk
          obtain ⟨s, rfl, _, hs⟩ := DataW.trod_string ht h
          exact OpensTo2.one r (s := .str s.data.toList) (by simp [SVR]) (by simp only [OpenS2]; exact ⟨_, rfl, by unfold maxLen at hs; simpa using hs⟩)
        | struct fs =>
          simp only at hk
          split at hk
          · rename_i ks' hgo
            split at hk
            · rename_i hlen
              cases hk
              obtain ⟨xs, n, hn, hxe, hl, hxs, hf⟩ := DataW.trod_struct ht h
              cases hn
              have := opens2_fields (cs := cs) ih fs.toList 0 ks (fun f hfm => by
                obtain ⟨i, hi, hfi⟩ := List.getElem_of_mem hfm
                have h1 : fs[i]? = some f := by rw [← Array.getElem?_toList, List.getElem?_eq_getElem hi, hfi]
                rw [hf i f h1]
                have : i < xs.length := by rw [hxs]; simpa using hi
                refine ⟨xs[i], List.getElem?_eq_getElem this, ?_⟩
                subst_vars
                unfold WOk DataW.weights at hw
                rw [ht] at hw
                exact weightsEach_get hw i _ _ (by rw [List.getElem?_map, Array.getElem?_toList, h1]; rfl) (by rw [List.getElem?_map, List.getElem?_eq_getElem this]; rfl)) hgo ρ H r
              rw [List.drop_zero, List.take_of_length_le (by omega)] at this
              exact this
            · cases hk
          · cases hk
        | array n e =>
          simp only at hk
          split at hk
          · rename_i k1 hk1
            split at hk
            · rename_i hlen
              cases hk
              obtain ⟨hl, hx⟩ := trod_array2 ht h hw
              rw [hlen.1] at hx
              have := opens2_elems (cs := cs) ih hk1 n hx ρ H r
              rw [List.take_of_length_le (by rw [hl, hlen.2]; exact Nat.le_refl _)] at this
              exact this
            · cases hk
          · cases hk
        | slice e =>
          simp only at hk
          split at hk
          · rename_i k1 hk1
            split at hk
            · rename_i hlen
              cases hk
              rcases DataW.trod_slice ht h with ⟨rfl, _⟩ | ⟨a, len, cap, elems, rest, n, hn, rfl, hxe, _, hle, hcap, hel, hx, _⟩
              · exact OpensTo2.one r (s := .nils) rfl (by simp [OpenS2])
              · cases hn
                rw [hlen.1] at hx
                rw [hxe] at hw
                unfold WOk DataW.weights at hw
                rw [ht] at hw
                simp only [List.mem_cons, List.mem_append] at hw
                have hwl : len * P.bytesOf e ≤ reachBytes := by
                  have h1 := hw _ (.inl rfl)
                  rw [List.length_map, List.length_map, hel] at h1
                  exact Nat.le_trans (Nat.mul_le_mul_right _ (Nat.le_add_right _ _)) h1
                have hwe := weightsAll_get (T := H0) (P := P) (e := e) (ds := elems.map (·.1)) (fun n hn => hw n (.inr (.inl hn)))
                by_cases h0 : len = 0
                · subst h0
                  exact OpensTo2.one r (s := .eslice false) ⟨a, cap, rfl, fun hh => by cases hh⟩ (by simp [OpenS2])
                · have hx' : ∀ i, i < len → ∃ x, (W.cells? 0 (a.add (i * k1.length)) k1.length).bind (DataW.trod enc P W 0 (fun _ => true) held fuel e) = some x ∧ WOk P e x.1 := by
                    intro i hi
                    rw [hx i hi]
                    exact ⟨elems[i]'(by omega), List.getElem?_eq_getElem (by omega), hwe i _ (by rw [List.getElem?_map, List.getElem?_eq_getElem (by omega)]; rfl)⟩
                  obtain ⟨y, hy, _⟩ := hx' 0 (by omega)
                  rw [Option.bind_eq_some_iff] at hy
                  obtain ⟨ecs, hy1, _⟩ := hy
                  rw [Nat.zero_mul] at hy1
                  obtain ⟨c, ty, fz, hb, _, _, hsp⟩ := cells?_spec hlen.2 hy1
                  obtain ⟨ρ1, H1, svs, o1, e1, b1, l1, c1, p1⟩ := opens2_slots ih hk1 hlen.2 hb len hx' ρ H r
                  obtain ⟨o2, e2⟩ := o1.see (t := e) (extra := cap - len) hb c1
                  have hnew : (ρ1.add H1.n ⟨a.block, a.off, cap - len⟩) H1.n = some ⟨a.block, a.off, cap - len⟩ := by simp [Rho.add]
                  refine ⟨_, _, [.slice H1.n 0 len len], o2, e1.trans e2, b1.trans (Sub.push _ _), ⟨⟨_, hnew, ?_⟩, trivial⟩, ?_⟩
                  · have ha : a = (⟨a.block, a.off, none⟩ : Addr) := by
                      have := hsp rfl
                      cases a; simp_all
                    simp only [Tgt.addr, Nat.add_zero]
                    rw [← ha, show len + (cap - len) = cap by omega]
                  · simp only [OpenL2, OpenS2]
                    refine ⟨_, [], rfl, .inr (.inr ⟨H1.n, len, svs, rfl, by omega, ⟨?_, hwl⟩, l1, Heap.get_push_new _ _, fun i hi => (p1 i hi).mono (Sub.push _ _)⟩), rfl⟩
                    unfold maxLen at hcap
                    omega
            · cases hk
          · cases hk
        | _ => simp at hk

end

/-- An argument: whether it is a struct or an array, and its cells. -/
def OpenA2 (B : TypeId → Nat) (H : Heap) : List (Bool × List Sh) → List AV → Prop
  | [], l => l = []
  | (true, ks) :: r, l => ∃ svs l', l = .agg svs :: l' ∧ OpenL2 B H ks svs ∧ OpenA2 B H r l'
  | (false, ks) :: r, l => ∃ k s l', ks = [k] ∧ l = .sc s :: l' ∧ OpenS2 B H k s ∧ OpenA2 B H r l'

theorem OpenA2.mono {B : TypeId → Nat} {H H' : Heap} (h : Sub H H') : ∀ {shl : List (Bool × List Sh)} {l : List AV}, OpenA2 B H shl l → OpenA2 B H' shl l
  | [], _, r => r
  | (true, ks) :: r, l, p => by obtain ⟨svs, l', h1, h2, h3⟩ := p; exact ⟨svs, l', h1, h2.mono h, OpenA2.mono h h3⟩
  | (false, ks) :: r, l, p => by obtain ⟨k, s, l', h0, h1, h2, h3⟩ := p; exact ⟨k, s, l', h0, h1, h2.mono h, OpenA2.mono h h3⟩

section
variable {H0 : Type} {enc : TypeId × Value → H0} {P : Program} {W : World}
theorem open2_args {b0 : Nat} : ∀ {ts : List TypeId} {vs : List Value} {ds : List (DataW H0)} {ps : List MemPlace} {shl : List (Bool × List Sh)}, DataW.TrodAll enc P W 0 (fun _ => true) true ts vs ds ps →
    (∀ (j : Nat) t v, ts[j]? = some t → vs[j]? = some v → Value.okWide P W .any b0 t v) → shArgs P ts = some shl → (∀ n ∈ DataW.weightsEach P ts ds, n ≤ reachBytes) →
    ∀ ρ H, Opened P W ρ H → ∃ ρ' H' avs, Opened P W ρ' H' ∧ Ext ρ H ρ' H' ∧ Sub H H' ∧ LR (AVR ρ') avs vs ∧ OpenA2 P.bytesOf H' shl avs
  | [], vs, ds, ps, shl, h, hok, hs, hw, ρ, H, r => by
    obtain ⟨rfl, rfl, rfl⟩ := trodAll_nil h
    simp only [shArgs, Option.some.injEq] at hs; subst hs
    exact ⟨ρ, H, [], r, Ext.refl _ _, Sub.refl _, trivial, rfl⟩
  | t :: ts, vs, ds, ps, shl, h, hok, hs, hw, ρ, H, r => by
    cases vs with
    | nil => cases ds <;> exact h.elim
    | cons v vs =>
      cases ds with
      | nil => exact h.elim
      | cons d ds =>
        obtain ⟨p, q, ⟨fuel, h1⟩, h2, rfl⟩ := h
        unfold shArgs at hs
        split at hs
        · rename_i ks a l hks hag hl
          split at hs
          · rename_i hone
            cases hs
            obtain ⟨ρ1, H1, svs, o1, e1, b1, l1, p1⟩ := open2_cells true fuel t _ _ _ _ h1 (weightsEach_get hw 0 _ _ rfl rfl) hks ρ H r
            obtain ⟨ρ2, H2, avs, o2, e2, b2, l2, p2⟩ := open2_args h2 (fun j t' v' ht hv => hok (j + 1) t' v' (by simpa using ht) (by simpa using hv)) hl (fun n hn => hw n (by unfold DataW.weightsEach; exact List.mem_append.2 (.inr hn))) ρ1 H1 o1
            have hv := hok 0 t v rfl rfl
            cases a with
            | some n =>
              have : ∃ cs, v = .agg cs := by
                rcases agg?_some hag with ⟨fs, hu⟩ | ⟨m, e, hu⟩
                · unfold Value.okWide at hv; rw [hu] at hv; exact ⟨_, hv.choose_spec.1⟩
                · unfold Value.okWide at hv; rw [hu] at hv; exact ⟨_, hv.choose_spec.1⟩
              obtain ⟨cs, rfl⟩ := this
              refine ⟨ρ2, H2, .agg svs :: avs, o2, e1.trans e2, b1.trans b2, ⟨⟨cs.toList, by simp, ?_⟩, l2⟩, ⟨svs, avs, rfl, p1.mono b2, p2⟩⟩
              exact (l1.mono fun _ _ => SVR.mono e2.sub)
            | none =>
              simp only [Option.isSome_none, Bool.false_or, decide_eq_true_eq] at hone
              obtain ⟨k, rfl⟩ := List.length_eq_one_iff.1 hone
              simp only [OpenL2] at p1
              obtain ⟨s, l', rfl, p3, rfl⟩ := p1
              have hva : ∀ cs, v ≠ .agg cs := by
                rintro cs rfl
                unfold Value.okWide at hv
                unfold agg? at hag
                cases hu : P.underlying t with
                | none => rw [hu] at hag; cases hag
                | some d' => rw [hu] at hag hv; cases d' <;> simp_all [Cell.okWide, Cell.ok]
              have hcells : v.cells.toList = [v] := by
                cases v <;> first | rfl | exact absurd rfl (hva _)
              rw [hcells] at l1
              refine ⟨ρ2, H2, .sc s :: avs, o2, e1.trans e2, b1.trans b2, ⟨l1.1.mono e2.sub, l2⟩, ⟨k, s, avs, rfl, rfl, p3.mono b2, p2⟩⟩
          · cases hs
        · cases hs

end

theorem calls_law2 {P : Program} {X : Exts} {D : Nat → Option MFunc} {f b0 : Nat} {ls : List (Nat × TypeId × List SV)} (hX : ExtOk P X) {W : World} (hD : FunOk P W X D) (hl : LaidOk P W ls) {ts : List TypeId} {shs : List (Bool × List Sh)} (has : shArgs P ts = some shs)
    {T : Type} {enc : TypeId × Value → T} {args : Array Value} {ds : List (DataW T)} {ps : List MemPlace} (hA : DataW.TrodAll enc P W 0 (fun _ => true) true ts args.toList ds ps)
    (hok : ∀ (j : Nat) t v, ts[j]? = some t → args.toList[j]? = some v → Value.okWide P W .any b0 t v) (hwt : (DataW.weightsEach P ts ds).all (· ≤ reachBytes) = true)
    (hw : ∀ (H : Heap) (avs : List AV), H.l.length = H.n → Sub (HL P.globals.size ls) H → OpenA2 P.bytesOf H shs avs → ∃ n x H', run D n (.call f avs H) = some (x, [.sc (.bool true)], H')) :
    Calls P f args W fun e W' => e = .returned (.bool true) ∧ Below W.heap.size W W' := by
  have hwt' : ∀ n ∈ DataW.weightsEach P ts ds, n ≤ reachBytes := fun n hn => of_decide_eq_true (List.all_eq_true.1 hwt n hn)
  obtain ⟨ρ, H, avs, o, e, b, l, p⟩ := open2_args hA hok has hwt' _ _ hl
  obtain ⟨n, x, H', hr⟩ := hw H avs o.rel.wf b p
  have := (all_ok (w0 := W) hX hD n).2.2.2 f avs H x _ H' hr ρ W args.toList o.rel (fun g hg => e.sub _ _ (by simp [rho0, hg])) l
  rw [Array.toArray_toList] at this
  exact this.mono fun e W' ⟨ρ', u, h1, h2, h3, _⟩ => ⟨by rw [h1]; exact congrArg _ h2, h3.below⟩
theorem weightsEach_append {T : Type} {P : Program} : ∀ {ts us : List TypeId} {ds gs : List (DataW T)}, ds.length = ts.length → (DataW.weightsEach P (ts ++ us) (ds ++ gs)).all (· ≤ reachBytes) = true → (DataW.weightsEach P ts ds).all (· ≤ reachBytes) = true
  | [], us, ds, gs, hl, h => by unfold DataW.weightsEach; rfl
  | t :: ts, us, [], gs, hl, h => by simp at hl
  | t :: ts, us, d :: ds, gs, hl, h => by
    simp only [List.cons_append, DataW.weightsEach, List.all_append, Bool.and_eq_true] at h ⊢
    exact ⟨h.1, weightsEach_append (by simpa using hl) h.2⟩
end Go.Jx
/- Compose: what the laws of views are handed; ComposeBanner. -/
set_option linter.unusedSimpArgs false
set_option linter.unusedVariables false
set_option maxHeartbeats 1000000
set_option maxRecDepth 100000
namespace Go.Jx
open Go Go.RowKit
/-- What a slice that a law is handed has. -/
theorem OpenS2.sl {B : TypeId → Nat} {H : Heap} {e : TypeId} {n : Nat} {el : List Sh} {v : SV} (o : OpenS2 B H (.slice e n el) v) {α : Type} {enc : α → List SV} {R : α → Prop} (hn : ∀ a, (enc a).length = n) (hel : ∀ l, OpenL2 B H el l → ∃ a, l = enc a ∧ R a) :
    ∃ L : List α, Sl enc n H v L ∧ (∀ a ∈ L, R a) ∧ L.length * B e ≤ reachBytes := by
  simp only [OpenS2] at o
  rcases o with rfl | rfl | ⟨id, len, cs, rfl, h2, ⟨h3, h3'⟩, h4, h5, h6⟩
  · exact ⟨[], .inl ⟨rfl, .inl rfl⟩, by simp, by simp⟩
  · exact ⟨[], .inl ⟨rfl, .inr ⟨_, rfl⟩⟩, by simp, by simp⟩
  · obtain ⟨L, h7, rfl, h9⟩ := chunks hn len cs h4 (fun i hi => hel _ (h6 i hi))
    refine ⟨L, ?_, h9, by rw [h7]; exact h3'⟩
    have := Sl.whole (L := L) hn h5
    rw [h7] at this
    exact this
theorem rows_of2 {α : Type} {E : El α} {H : Heap} {N : Nat} : ∀ {L : List SV}, (∀ s ∈ L, ∃ X : List α, Sl E.enc E.n H s X ∧ X.length * N ≤ reachBytes) →
    ∃ G : List (SV × List α), G.map Prod.fst = L ∧ (∀ g ∈ G, SlR E (Now H) g.1 g.2) ∧ ∀ g ∈ G, g.2.length * N ≤ reachBytes
  | [], _ => ⟨[], rfl, by simp, by simp⟩
  | s :: L, h => by
    obtain ⟨G, h1, h2, h4⟩ := rows_of2 (E := E) (H := H) (N := N) (L := L) (fun s hs => h s (by simp [hs]))
    obtain ⟨X, h5, h7⟩ := h s (by simp)
    refine ⟨(s, X) :: G, by simp [h1], ?_, ?_⟩ <;> intro g hg <;> rcases List.mem_cons.1 hg with rfl | hg
    · exact h5
    · exact h2 g hg
    · exact h7
    · exact h4 g hg
theorem OpenS2.ns {B : TypeId → Nat} {H : Heap} {ts t : TypeId} {n : Nat} {el : List Sh} {v : SV} (o : OpenS2 B H (.slice ts 1 [.slice t n el]) v) {α : Type} {E : El α} (hn : n = E.n) (hel : ∀ l, OpenL2 B H el l → ∃ a, l = E.enc a ∧ True) :
    ∃ G : List (SV × List α), NsR E (Now H) v G ∧ G.length * B ts ≤ reachBytes ∧ ∀ g ∈ G, g.2.length * B t ≤ reachBytes := by
  subst hn
  obtain ⟨L, h1, h2, h3⟩ := o.sl (enc := svEl.enc) (R := fun s => OpenS2 B H (.slice t E.n el) s) svEl.len (fun l o => by
    simp only [OpenL2] at o
    obtain ⟨s, _, rfl, h, rfl⟩ := o
    exact ⟨s, rfl, h⟩)
  obtain ⟨G, h4, h5, h7⟩ := rows_of2 (E := E) (H := H) (N := B t) (L := L) (fun s hs => by
    obtain ⟨X, q1, _, q2⟩ := (h2 s hs).sl (enc := E.enc) E.len hel
    exact ⟨X, q1, q2⟩)
  refine ⟨G, ⟨by rw [h4]; exact h1, h5⟩, ?_, h7⟩
  rw [← h4, List.length_map] at h3; exact h3
end Go.Jx
namespace Go.Proofs.YtfmldkjidfigbaaDoor
open Go Go.Jx Go.RowKit

abbrev shC : List Sh := [.int .i32, .int .u8, .int .u16, .int .u8, .int .u32, .int .u8, .int .u32]
abbrev shLs : Sh := .slice 35 1 [.slice 34 7 shC]
abbrev shRc : List Sh := [.int .i64, .int .i64, .int .i64, .int .i64]
abbrev shP : List Sh := [.int .i64, .int .i64, .int .i64, .int .i64, .bool, shLs]
abbrev shV : List Sh := [.int .i64, .int .i64, .slice 40 6 shP, .slice 37 4 shRc, .str, .int .i64, .int .i64, .bool]
theorem openCell2 {h : Heap} {l : List SV} (o : OpenL2 Tryd.prog.bytesOf h shC l) : ∃ c : Cell, l = cellE.enc c ∧ True := by
  simp only [OpenL2, OpenS2] at o
  obtain ⟨_, _, rfl, ⟨r, rfl, _⟩, _, _, rfl, ⟨w, rfl, _⟩, _, _, rfl, ⟨f, rfl, _⟩, _, _, rfl, ⟨fk, rfl, _⟩, _, _, rfl, ⟨fn, rfl, _⟩, _, _, rfl, ⟨bk, rfl, _⟩, _, _, rfl, ⟨bn, rfl, _⟩, rfl⟩ := o
  exact ⟨⟨r, w, ⟨f, fk, fn, bk, bn⟩⟩, rfl, trivial⟩
theorem by_cell : Tryd.prog.bytesOf 34 = 28 := by kernel_rfl
theorem by_row : Tryd.prog.bytesOf 35 = 24 := by kernel_rfl
theorem by_part : Tryd.prog.bytesOf 40 = 64 := by kernel_rfl
theorem by_rect : Tryd.prog.bytesOf 37 = 32 := by kernel_rfl
theorem reach_is : reachBytes = 140737488351232 := by decide
theorem inI_of {x : Int} (h1 : IntKind.i64.min ≤ x) (h2 : x ≤ IntKind.i64.max) : InI x := by
  rw [show IntKind.i64.min = -9223372036854775808 by decide] at h1
  rw [show IntKind.i64.max = 9223372036854775807 by decide] at h2
  exact ⟨h1, h2⟩
/-- What lines are. -/
def LnIs (H : Heap) (s : SV) (G : List (SV × List Cell)) : Prop := NsR cellE (Now H) s G ∧ G.length ≤ 10000000000000 ∧ ∀ g ∈ G, g.2.length ≤ 10000000000000
theorem lns_exist (H : Heap) : ∃ ln : Lns, ∀ s G, LnIs H s G → LnIs H s (ln s) := by
  have h1 : ∀ s, ∃ G, ∀ G', LnIs H s G' → LnIs H s G := fun s => by
    by_cases h : ∃ G, LnIs H s G
    · obtain ⟨G, hG⟩ := h
      exact ⟨G, fun _ _ => hG⟩
    · exact ⟨[], fun G' h' => absurd ⟨G', h'⟩ h⟩
  obtain ⟨f, hf⟩ := Classical.axiomOfChoice h1
  exact ⟨f, hf⟩
theorem openLs {H : Heap} {ln : Lns} (hln : ∀ s G, LnIs H s G → LnIs H s (ln s)) {s : SV} (o : OpenS2 Tryd.prog.bytesOf H shLs s) : LnIs H s (ln s) := by
  obtain ⟨G, h1, h2, h3⟩ := OpenS2.ns (E := cellE) o rfl (fun l o => openCell2 o)
  rw [by_row, reach_is] at h2
  refine hln s G ⟨h1, by omega, fun g hg => ?_⟩
  have := h3 g hg
  rw [by_cell, reach_is] at this
  omega
theorem openRc {H : Heap} {l : List SV} (o : OpenL2 Tryd.prog.bytesOf H shRc l) : ∃ r : Rc, l = rcE.enc r ∧ RcI r := by
  simp only [OpenL2, OpenS2] at o
  obtain ⟨_, _, rfl, ⟨x, rfl, x1, x2⟩, _, _, rfl, ⟨y, rfl, y1, y2⟩, _, _, rfl, ⟨w, rfl, w1, w2⟩, _, _, rfl, ⟨h, rfl, h1, h2⟩, rfl⟩ := o
  exact ⟨⟨x, y, w, h⟩, rfl, inI_of x1 x2, inI_of y1 y2, inI_of w1 w2, inI_of h1 h2⟩
theorem openPart {H : Heap} {ln : Lns} (hln : ∀ s G, LnIs H s G → LnIs H s (ln s)) {l : List SV} (o : OpenL2 Tryd.prog.bytesOf H shP l) : ∃ p : PartV, l = partE.enc p ∧ PartOk (Now H) ln p := by
  unfold shP at o
  rw [OpenL2] at o; obtain ⟨_, _, rfl, o1, o⟩ := o
  rw [OpenL2] at o; obtain ⟨_, _, rfl, o2, o⟩ := o
  rw [OpenL2] at o; obtain ⟨_, _, rfl, o3, o⟩ := o
  rw [OpenL2] at o; obtain ⟨_, _, rfl, o4, o⟩ := o
  rw [OpenL2] at o; obtain ⟨_, _, rfl, o5, o⟩ := o
  rw [OpenL2] at o; obtain ⟨s, _, rfl, o6, o⟩ := o
  rw [OpenL2] at o; subst o
  simp only [OpenS2] at o1 o2 o3 o4 o5
  obtain ⟨x, rfl, x1, x2⟩ := o1
  obtain ⟨y, rfl, y1, y2⟩ := o2
  obtain ⟨w, rfl, w1, w2⟩ := o3
  obtain ⟨h, rfl, h1, h2⟩ := o4
  obtain ⟨b, rfl⟩ := o5
  exact ⟨⟨⟨x, y, w, h⟩, b, s⟩, rfl, ⟨inI_of x1 x2, inI_of y1 y2, inI_of w1 w2, inI_of h1 h2⟩, openLs hln o6⟩
theorem openView {H : Heap} {ln : Lns} (hln : ∀ s G, LnIs H s G → LnIs H s (ln s)) {l : List SV} (o : OpenL2 Tryd.prog.bytesOf H shV l) : ∃ (v : ViewV) (P : List PartV) (B : List Rc), l = viewL v ∧ ViewOk (Now H) ln v P B ∧ P.length * 64 ≤ 140737488351232 := by
  unfold shV at o
  rw [OpenL2] at o; obtain ⟨_, _, rfl, o1, o⟩ := o
  rw [OpenL2] at o; obtain ⟨_, _, rfl, o2, o⟩ := o
  rw [OpenL2] at o; obtain ⟨ps, _, rfl, o3, o⟩ := o
  rw [OpenL2] at o; obtain ⟨bs, _, rfl, o4, o⟩ := o
  rw [OpenL2] at o; obtain ⟨_, _, rfl, o5, o⟩ := o
  rw [OpenL2] at o; obtain ⟨_, _, rfl, o6, o⟩ := o
  rw [OpenL2] at o; obtain ⟨_, _, rfl, o7, o⟩ := o
  rw [OpenL2] at o; obtain ⟨_, _, rfl, o8, o⟩ := o
  rw [OpenL2] at o; subst o
  obtain ⟨P, p1, p2, p3⟩ := o3.sl (enc := partE.enc) partE.len (fun l o => openPart hln o)
  obtain ⟨B, b1, b2, b3⟩ := o4.sl (enc := rcE.enc) rcE.len (fun l o => openRc o)
  rw [by_part, reach_is] at p3
  rw [by_rect, reach_is] at b3
  simp only [OpenS2] at o1 o2 o5 o6 o7 o8
  obtain ⟨w, rfl, w1, w2⟩ := o1
  obtain ⟨h, rfl, h1, h2⟩ := o2
  obtain ⟨s, rfl, s1⟩ := o5
  obtain ⟨x, rfl, x1, x2⟩ := o6
  obtain ⟨y, rfl, y1, y2⟩ := o7
  obtain ⟨b, rfl⟩ := o8
  exact ⟨⟨w, h, ps, bs, s, x, y, b⟩, P, B, rfl, ⟨p1, b1, by omega, by omega, p2, b2, by omega, inI_of w1 w2, inI_of h1 h2, inI_of x1 x2, inI_of y1 y2⟩, p3⟩
def hasBB2 (h : Heap) : Bool := match h.get 0 with | some (.cells _ .ro cs) => decide (cs = bnd.flatMap encB) | _ => false
theorem hasB_of2 {h : Heap} (b : hasBB2 h = true) : HasB h := by
  unfold hasBB2 at b
  split at b
  · rename_i t cs hg
    rw [decide_eq_true_eq] at b
    subst b
    exact ⟨_, hg⟩
  · cases b
theorem hasB_start2 : HasB (HL Tryd.prog.globals.size jxLs) := hasB_of2 (by kernel_rfl)
theorem hasR_start {H : Heap} (hs : Sub (HL Tryd.prog.globals.size jxLs) H) : HasR (Now H) := by
  obtain ⟨t, b⟩ := hasB_start2
  exact ⟨t, hs.2 _ _ b⟩
theorem walk_composeBanner (H : Heap) (avs : List AV) (hwf : H.l.length = H.n) (hs : Sub (HL Tryd.prog.globals.size jxLs) H) (ho : OpenA2 Tryd.prog.bytesOf H [(true, shV)] avs) : W DD (.call 6 avs H) (fun _ vs _ => vs = [.sc (.bool true)]) := by
  simp only [OpenA2] at ho
  obtain ⟨svs, l', rfl, o1, rfl⟩ := ho
  obtain ⟨ln, hln⟩ := lns_exist H
  obtain ⟨v, P, B, rfl, hv, _⟩ := openView hln o1
  have hb := hasR_start hs
  by_cases hok : OkV v
  · exact (banner_yes hb hv hok).mono fun _ _ _ ⟨r, hr, h3⟩ => by rw [hr, h3]
  · exact (banner_no hb hv hok).mono fun _ _ _ ⟨r, hr, h3⟩ => by rw [hr, h3]
end Go.Proofs.YtfmldkjidfigbaaDoor
