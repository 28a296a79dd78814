/-
  Walking, fourth part: slices that are appended to.
-/
import Derived.Test.YtfmldkjidfigbaaDoorJxW3
set_option linter.unusedVariables false
set_option linter.unusedSimpArgs false
namespace Go.Jx
open Go

/-- What lies below b is as it was. -/
def Keep (b : Nat) (h h' : Heap) : Prop := h.n ≤ h'.n ∧ ∀ id o, id < b → h.get id = some o → h'.get id = some o
theorem Keep.refl (b : Nat) (h : Heap) : Keep b h h := ⟨Nat.le_refl _, fun _ _ _ e => e⟩
theorem Keep.trans {b : Nat} {h h' h'' : Heap} (k : Keep b h h') (k' : Keep b h' h'') : Keep b h h'' := ⟨Nat.le_trans k.1 k'.1, fun id o l e => k'.2 _ _ l (k.2 _ _ l e)⟩
theorem Keep.of_sub {b : Nat} {h h' : Heap} (s : Sub h h') : Keep b h h' := ⟨s.1, fun id o _ e => s.2 _ _ e⟩
theorem Sub.keep {h0 h h' : Heap} (s : Sub h0 h) (k : Keep h0.n h h') : Sub h0 h' := ⟨Nat.le_trans s.1 k.1, fun id o e => k.2 _ _ (Heap.get_lt e) (s.2 _ _ e)⟩
theorem Keep.set {b : Nat} {h : Heap} {id : Nat} {o : AO} (hb : b ≤ id) : Keep b h (h.set id o) := ⟨by rw [Heap.set_n]; exact Nat.le_refl _, fun j o' hj e => by rw [Heap.get_set_ne (by omega)]; exact e⟩
theorem Keep.push {b : Nat} {h : Heap} {o : AO} : Keep b h (h.push o) := Keep.of_sub (Sub.push h o)

section
variable {α : Type} {enc : α → List SV} {n : Nat} {h : Heap} {v : SV} {L M : List α}

theorem flatMap_len (hn : ∀ a, (enc a).length = n) (L : List α) : (L.flatMap enc).length = L.length * n := by
  rw [List.flatMap_def, flatten_length (n := n) (by intro c hc; obtain ⟨a, _, rfl⟩ := List.mem_map.1 hc; exact hn a), List.length_map]

theorem flatMap_get (hn : ∀ a, (enc a).length = n) {L : List α} {i r : Nat} {x : α} (hx : L[i]? = some x) (hr : r < n) : (L.flatMap enc)[i * n + r]? = (enc x)[r]? := by
  rw [List.flatMap_def, flatten_getElem? (n := n) (by intro c hc; obtain ⟨a, _, rfl⟩ := List.mem_map.1 hc; exact hn a) hr, List.getElem?_map, hx]; rfl

/-- The elements, one by one, are the whole. -/
theorem readN_all (hn : ∀ a, (enc a).length = n) (h0 : 0 < n) {cs : List SV} {off : Nat} (he : ∀ (i : Nat) (x : α), L[i]? = some x → readN cs (off + i * n) n = some (enc x)) (hl : 0 < L.length) : readN cs off (L.length * n) = some (L.flatMap enc) := by
  refine readN_of (flatMap_len hn L) (fun i hi => ?_) (fun hz => ?_)
  · have hq : i / n < L.length := Nat.div_lt_of_lt_mul (by rw [Nat.mul_comm]; exact hi)
    have hi2 : i = i / n * n + i % n := by rw [Nat.mul_comm]; exact (Nat.div_add_mod i n).symm
    have hx : L[i / n]? = some L[i / n] := List.getElem?_eq_getElem hq
    have h1 := (readN_spec (he _ _ hx)).2 (i % n) (Nat.mod_lt _ h0)
    have h2 := flatMap_get hn hx (Nat.mod_lt i h0)
    rw [← hi2] at h2
    rw [h2, ← h1]
    congr 1
    omega
  · have : 0 < L.length * n := Nat.mul_pos hl h0
    omega

theorem Sl.first (hn : ∀ a, (enc a).length = n) (h0 : 0 < n) (p : Sl enc n h v L) : lenA (.sc v) = some L.length ∧ firstA n L.length (.sc v) h = some (L.flatMap enc) := by
  rcases p with ⟨rfl, rfl | ⟨b, rfl⟩⟩ | ⟨id, off, cap, t, kd, cs, rfl, h2, h3, h4⟩
  · exact ⟨rfl, rfl⟩
  · exact ⟨rfl, rfl⟩
  · refine ⟨rfl, ?_⟩
    unfold firstA
    simp only
    by_cases hz : L.length = 0
    · rw [hz, Nat.zero_mul, if_pos rfl]
      rw [List.length_eq_zero_iff.1 hz]; rfl
    · rw [if_neg (by have := Nat.mul_pos (Nat.pos_of_ne_zero hz) h0; omega), h3]
      exact readN_all hn h0 h4 (Nat.pos_of_ne_zero hz)

/-- A slice that is appended to: nothing yet, or an object of its own, from its beginning. It lies at b or above. -/
def Acc (b : Nat) (enc : α → List SV) (n : Nat) (t : TypeId) (h : Heap) (v : SV) (L : List α) : Prop :=
  (v = .nils ∧ L = []) ∨ ∃ id cap kd cs, b ≤ id ∧ v = .slice id 0 L.length cap ∧ h.get id = some (.cells t kd cs) ∧ L.length ≤ cap ∧ cs.length = cap * n ∧ cs.take (L.length * n) = L.flatMap enc ∧ ((kd = .grow ∧ cap = L.length) ∨ kd = .own)

theorem Acc.nil (b : Nat) (t : TypeId) (h : Heap) : Acc b enc n t h .nils [] := .inl ⟨rfl, rfl⟩
theorem Acc.empty {b : Nat} (t : TypeId) (h : Heap) (hb : b ≤ h.n) : Acc b enc n t (h.push (.cells t .own [])) (.slice h.n 0 0 0) [] :=
  .inr ⟨h.n, 0, .own, [], hb, rfl, Heap.get_push_new _ _, Nat.le_refl _, by simp, by simp, .inr rfl⟩

theorem Acc.sub {b : Nat} {t : TypeId} {h h' : Heap} (s : Sub h h') (p : Acc b enc n t h v L) : Acc b enc n t h' v L := by
  rcases p with p | ⟨id, cap, kd, cs, h1, h2, h3, h4⟩
  · exact .inl p
  · exact .inr ⟨id, cap, kd, cs, h1, h2, s.2 _ _ h3, h4⟩

theorem Acc.sl {b : Nat} {t : TypeId} (hn : ∀ a, (enc a).length = n) (p : Acc b enc n t h v L) : Sl enc n h v L := by
  rcases p with ⟨rfl, rfl⟩ | ⟨id, cap, kd, cs, h1, rfl, h3, h4, h5, h6, h7⟩
  · exact Sl.nil h
  · refine .inr ⟨id, 0, cap, t, kd, cs, rfl, h4, h3, fun i x hx => ?_⟩
    have hi := (List.getElem?_eq_some_iff.1 hx).1
    refine readN_of (hn x) (fun r hr => ?_) (fun hz => by rw [hz]; simp)
    have hlt : i * n + r < L.length * n := by
      calc i * n + r < i * n + n := by omega
        _ = (i + 1) * n := by rw [Nat.succ_mul]
        _ ≤ L.length * n := Nat.mul_le_mul_right _ hi
    rw [← flatMap_get hn hx hr, ← h6, List.getElem?_take_of_lt hlt, Nat.zero_add]

theorem roomA_of {need bytes : Nat} (h : 0 < bytes ∧ (4 * need + 1000) * bytes ≤ 2 ^ 48) : roomA need bytes = true := by unfold roomA; exact decide_eq_true h

theorem append_acc {b : Nat} {t : TypeId} {bytes : Nat} {x : AV} (hn : ∀ a, (enc a).length = n) (h0 : 0 < n) (p : Acc b enc n t h v L) (hb : b ≤ h.n) (hx : lenA x = some M.length) (hf : firstA n M.length x h = some (M.flatMap enc)) (hr : roomA (L.length + M.length) bytes = true) :
    ∃ v' h', appendA t n bytes (.sc v) x h = some (.sc v', h') ∧ Acc b enc n t h' v' (L ++ M) ∧ Keep b h h' := by
  have hM := flatMap_len hn M
  have hL := flatMap_len hn L
  unfold appendA
  simp only [hx, hf]
  by_cases hm : M.length = 0
  · have hM0 : M = [] := List.length_eq_zero_iff.1 hm
    subst hM0
    rw [if_pos hm, List.append_nil]
    rcases p with ⟨rfl, rfl⟩ | ⟨id, cap, kd, cs, h1, rfl, h3, h4, h5⟩
    · exact ⟨_, _, rfl, Acc.nil _ _ _, Keep.refl _ _⟩
    · simp only
      rw [if_pos h4]
      exact ⟨_, _, rfl, .inr ⟨id, cap, kd, cs, h1, rfl, h3, h4, h5⟩, Keep.refl _ _⟩
  · rw [if_neg hm, if_neg (by rw [hM]; simp)]
    have grow : ∀ (h1 : Heap), b ≤ h1.n → Keep b h h1 → Acc b enc n t (h1.push (.cells t .grow (L.flatMap enc ++ M.flatMap enc))) (.slice h1.n 0 (L.length + M.length) (L.length + M.length)) (L ++ M) := by
      intro h1 hb1 hk
      refine .inr ⟨h1.n, L.length + M.length, .grow, _, hb1, by rw [List.length_append], Heap.get_push_new _ _, by rw [List.length_append]; exact Nat.le_refl _, by rw [List.length_append, hL, hM, Nat.add_mul], ?_, .inl ⟨rfl, by rw [List.length_append]⟩⟩
      rw [List.length_append, Nat.add_mul, List.flatMap_append]
      exact List.take_of_length_le (by rw [List.length_append, hL, hM]; exact Nat.le_refl _)
    rcases p with ⟨rfl, rfl⟩ | ⟨id, cap, kd, cs, h1, rfl, h3, h4, h5, h6, h7⟩
    · simp only
      unfold grownA
      rw [if_pos (roomC_of (by simpa using hr))]
      have := grow h hb (Keep.refl _ _)
      simp only [List.flatMap_nil, List.nil_append, List.length_nil, Nat.zero_add] at this ⊢
      exact ⟨_, _, rfl, this, Keep.push⟩
    · have hlen : L.length * n ≤ cs.length := by rw [h5]; exact Nat.mul_le_mul_right _ h4
      have hold : readN cs 0 (L.length * n) = some (L.flatMap enc) := by
        rw [readN_some (by omega), List.drop_zero, h6]
      rcases h7 with ⟨rfl, rfl⟩ | rfl
      · simp only [h3]
        rw [if_pos ⟨trivial, trivial, h5.symm, hr⟩, hold]
        simp only
        have := grow (h.set id .dead) (by rw [Heap.set_n]; exact hb) (Keep.set h1)
        rw [Heap.set_n] at this
        exact ⟨_, _, rfl, this, (Keep.set h1).trans Keep.push⟩
      · simp only [h3]
        by_cases hc : L.length + M.length ≤ cap
        · rw [if_pos hc]
          have hsum : L.length * n + M.length * n ≤ cs.length := by rw [h5, ← Nat.add_mul]; exact Nat.mul_le_mul_right _ hc
          have hw : writeN cs (0 + L.length * n) (M.flatMap enc) = some (cs.take (L.length * n) ++ M.flatMap enc ++ cs.drop (L.length * n + M.length * n)) := by
            unfold writeN
            rw [if_pos (by rw [hM]; omega), hM, Nat.zero_add]
          rw [hw]
          simp only
          refine ⟨_, _, rfl, .inr ⟨id, cap, .own, _, h1, by rw [List.length_append], Heap.get_set_eq h3, by rw [List.length_append]; exact hc, ?_, ?_, .inr rfl⟩, Keep.set h1⟩
          · rw [List.length_append, List.length_append, List.length_take, List.length_drop, hM, Nat.min_eq_left hlen]
            omega
          · rw [h6, List.length_append, Nat.add_mul, List.flatMap_append]
            exact List.take_left' (by rw [List.length_append, hL, hM])
        · rw [if_neg hc, hold]
          simp only
          unfold grownA
          rw [if_pos (roomC_of hr)]
          have := grow h hb (Keep.refl _ _)
          exact ⟨_, _, rfl, this, Keep.push⟩
end

section
variable {D : Nat → Option MFunc} {Q : Ex → List AV → Heap → Prop} {e : List AV} {h : Heap} {dst : Option Nat} {r : List MI}
variable {α : Type} {enc : α → List SV} {n : Nat} {v : SV} {L M : List α}

theorem W_appendSl {b : Nat} {t : TypeId} {bytes : Nat} {zero : List SV} {x y : Rnd} {u : SV} (ha : Acc b enc n t h v L) (hu : Sl enc n h u M) (hs : rd e x = .sc v) (hx : rd e y = .sc u) (hn : ∀ a, (enc a).length = n) (h0 : 0 < n) (hb : b ≤ h.n)
    (hr : 0 < bytes ∧ (4 * (L.length + M.length) + 1000) * bytes ≤ 2 ^ 48) (k : ∀ v' h', Acc b enc n t h' v' (L ++ M) → Keep b h h' → W D (.ops r (put e dst (.sc v')) h') Q) : W D (.ops (⟨dst, .append t n bytes zero x y, none⟩ :: r) e h) Q := by
  obtain ⟨h1, h2⟩ := hu.first hn h0
  obtain ⟨v', h', h3, h4, h5⟩ := append_acc hn h0 ha hb h1 h2 (roomA_of hr)
  refine W_act rfl (v := .sc v') (h' := h') ?_ (k v' h' h4 h5)
  show appendA t n bytes (rd e x) (rd e y) h = _
  rw [hs, hx]; exact h3
end
end Go.Jx
namespace Go.Jx
open Go
/-! ## drawn regions in which memory stands still -/

def Recs (h0 : Heap) : List DI → List Rec → Prop
  | [], [] => True
  | d :: l, r :: rs => (∃ e, RecIs d e h0 h0 r) ∧ Recs h0 l rs
  | _, _ => False
theorem Recs.nil (h0 : Heap) : Recs h0 [] [] := trivial
theorem Recs.cons {h0 : Heap} {d : DI} {l : List DI} {r : Rec} {rs : List Rec} {e : List AV} (h : RecIs d e h0 h0 r) (k : Recs h0 l rs) : Recs h0 (d :: l) (r :: rs) := ⟨⟨e, h⟩, k⟩
theorem Recs.length {h0 : Heap} : ∀ {l : List DI} {rs : List Rec}, Recs h0 l rs → rs.length = l.length
  | [], [], _ => rfl
  | d :: l, r :: rs, h => by simp [Recs.length h.2]
theorem Recs.mem {h0 : Heap} : ∀ {l : List DI} {rs : List Rec}, Recs h0 l rs → ∀ r ∈ rs, r.h = h0 ∧ r.h' = h0
  | [], [], _, r, hr => by cases hr
  | d :: l, r0 :: rs, h, r, hr => by
    rcases List.mem_cons.1 hr with rfl | hr
    · obtain ⟨e, h1, h2, _⟩ := h.1; exact ⟨h1, h2⟩
    · exact Recs.mem h.2 r hr

def idxOk (n : Nat) (l : List DI) : Bool := l.all fun d => (d.lo.all fun j => decide (j < n)) && (d.hi.all fun j => decide (j < n))

theorem loadIs_refl {agg : Option Nat} {x : Rnd} {u : AV} {h : Heap} {v : AV} (hl : loadA agg u h = some v) : loadIs (.load agg x) u h v = true := by
  unfold loadIs
  simp only [hl]
  unfold loadA at hl
  split at hl
  · split at hl
    · cases agg with
      | none =>
        simp only [partA, Option.map_eq_some_iff] at hl
        obtain ⟨s, _, rfl⟩ := hl
        simp [sameAV]
      | some n =>
        simp only [partA, Option.map_eq_some_iff] at hl
        obtain ⟨s, _, rfl⟩ := hl
        simp [sameAV]
    · cases hl
  · cases hl

theorem checkLoads_still {h0 : Heap} (recs : List Rec) (hr : ∀ r ∈ recs, r.h = h0 ∧ r.h' = h0) : ∀ (l : List DI) (rs : List Rec), idxOk recs.length l = true → Recs h0 l rs → checkLoads recs l rs = true
  | [], [], _, _ => by unfold checkLoads; rfl
  | d :: l, r :: rs, hi, h => by
    unfold idxOk at hi
    rw [List.all_cons, Bool.and_eq_true, Bool.and_eq_true] at hi
    have ih := checkLoads_still recs hr l rs hi.2 h.2
    unfold checkLoads
    rw [ih, Bool.and_true]
    obtain ⟨e, h1, h2, h3⟩ := h.1
    by_cases hc : d.cls = 1
    · cases hon : r.on with
      | false => simp
      | true =>
        obtain ⟨agg, x, hop, hx, hv⟩ := h3 hc hon
        rw [hop]
        have hlo : (d.lo.all fun j => match recs[j]? with | some q => loadIs (.load agg x) r.x q.h r.v | none => false) = true := by
          refine List.all_eq_true.2 fun j hj => ?_
          have hjn := of_decide_eq_true (List.all_eq_true.1 hi.1.1 j hj)
          rw [List.getElem?_eq_getElem hjn]
          simp only
          rw [(hr _ (List.getElem_mem hjn)).1]; exact loadIs_refl hv
        have hhi : (d.hi.all fun j => match recs[j]? with | some q => loadIs (.load agg x) r.x q.h' r.v | none => false) = true := by
          refine List.all_eq_true.2 fun j hj => ?_
          have hjn := of_decide_eq_true (List.all_eq_true.1 hi.1.2 j hj)
          rw [List.getElem?_eq_getElem hjn]
          simp only
          rw [(hr _ (List.getElem_mem hjn)).2]; exact loadIs_refl hv
        rw [Bool.or_eq_true, Bool.and_eq_true]
        exact .inr ⟨hlo, hhi⟩
    · have : (d.cls != 1) = true := by simpa using hc
      rw [this]; rfl

theorem W_dstill {D : Nat → Option MFunc} {Q : Ex → List AV → Heap → Prop} {e : List AV} {h h0 : Heap} {full : List DI} {acc rs : List Rec} (hrev : acc.reverse = rs) (hi : idxOk full.length full = true) (hr : Recs h0 full rs) (k : Q .normal e h) : W D (.dops [] full e h acc) Q := by
  subst hrev
  exact W_dnil (checkLoads_still _ hr.mem _ _ (by rw [hr.length]; exact hi) hr) k
end Go.Jx
namespace Go.Jx
open Go
/-! ## objects that are written -/

/-- All but one object is as it was. -/
def Mod (id : Nat) (h h' : Heap) : Prop := h.n ≤ h'.n ∧ ∀ j o, j ≠ id → h.get j = some o → h'.get j = some o
theorem Mod.refl (id : Nat) (h : Heap) : Mod id h h := ⟨Nat.le_refl _, fun _ _ _ e => e⟩
theorem Mod.trans {id : Nat} {h h' h'' : Heap} (k : Mod id h h') (k' : Mod id h' h'') : Mod id h h'' := ⟨Nat.le_trans k.1 k'.1, fun j o l e => k'.2 _ _ l (k.2 _ _ l e)⟩
theorem Mod.of_sub {id : Nat} {h h' : Heap} (s : Sub h h') : Mod id h h' := ⟨s.1, fun j o _ e => s.2 _ _ e⟩
theorem Mod.keep {id b : Nat} {h h' : Heap} (k : Mod id h h') (hb : b ≤ id) : Keep b h h' := ⟨k.1, fun j o hj e => k.2 j o (by omega) e⟩

/-- One object is turned, nothing else. -/
structure Turned (id : Nat) (o : AO) (h h' : Heap) : Prop where
  new : h'.get id = some o
  old : ∀ j, j ≠ id → h'.get j = h.get j
  n : h'.n = h.n
theorem Turned.set {h : Heap} {id : Nat} {o o' : AO} (hg : h.get id = some o) : Turned id o' h (h.set id o') := ⟨Heap.get_set_eq hg, fun j hj => Heap.get_set_ne hj, Heap.set_n _ _ _⟩
theorem Turned.mod {h h' : Heap} {id : Nat} {o : AO} (t : Turned id o h h') : Mod id h h' := ⟨by rw [t.n]; exact Nat.le_refl _, fun j o hj e => by rw [t.old j hj]; exact e⟩
/-- An object that another one does not know of. -/
theorem Turned.after {h0 h h' : Heap} {id i : Nat} {o : AO} (t : Turned id o h h') (m : Mod i h0 h) (hid : h0.n ≤ id) : Mod i h0 h' := by
  refine ⟨by rw [t.n]; exact m.1, fun j o' hj e => ?_⟩
  rw [t.old j (by have := Heap.get_lt e; omega)]
  exact m.2 j o' hj e

/-- A list, spelt. -/
def normK : List SV → (List SV → Option (List SV)) → Option (List SV)
  | [], k => k []
  | a :: l, k => normK l (fun l' => k (a :: l'))
theorem normK_eq : ∀ (l : List SV) (k : List SV → Option (List SV)), normK l k = k l
  | [], k => rfl
  | a :: l, k => by rw [normK, normK_eq l]
def normC (l : List SV) : Option (List SV) := normK l some
theorem normC_eq (l : List SV) : normC l = some l := normK_eq l some
theorem bind_normC {x : Option (List SV)} {l : List SV} (h : x.bind normC = some l) : x = some l := by
  cases x with
  | none => cases h
  | some y => rw [Option.bind_some, normC_eq] at h; exact h

section
variable {D : Nat → Option MFunc} {Q : Ex → List AV → Heap → Prop} {e : List AV} {h : Heap} {dst : Option Nat} {r : List MI}
theorem W_loadN {x : Rnd} {id off n : Nat} {t : TypeId} {kd : Kind} {cs vs : List SV} (hg : h.get id = some (.cells t kd cs)) (hx : rd e x = .sc (.ptr id off)) (hc : (readN cs off n).bind normC = some vs) (k : W D (.ops r (put e dst (.agg vs)) h) Q) :
    W D (.ops (⟨dst, .load (some n) x, none⟩ :: r) e h) Q := W_load_agg hx hg (bind_normC hc) k
theorem fnK_cell2 {m : MFunc} {a b n id : Nat} {t : TypeId} {kd : Kind} {cs vs : List SV} {w : AV} (hm : m.results = [.cell a (some n), .tmp b]) (ha : e.getD a undefA = .sc (.ptr id 0)) (hg : h.get id = some (.cells t kd cs)) (hr : (readN cs 0 n).bind normC = some vs) (hb : e.getD b undefA = w) (hw : notTup w = true)
    (k : Q .ret [.tup [.agg vs, w]] h) : fnK m Q .ret e h := by
  refine fnK_r (v := .tup [.agg vs, w]) ?_ k
  rw [hm]
  simp only [resultsA, resultsAll, resultA, ha, hb, loadA, hg, partA, bind_normC hr, Option.map_some]
  rw [if_pos (by simp only [List.all_cons, List.all_nil, hw]; rfl)]
theorem W_storeT {size : Nat} {x y : Rnd} {id off : Nat} {t : TypeId} {kd : Kind} {cs cs' vs : List SV} {v : AV} (hg : h.get id = some (.cells t kd cs)) (hx : rd e x = .sc (.ptr id off)) (hy : rd e y = v) (hv : cellsOfAV v = some vs) (hk : kd ≠ .ro) (hn : vs.length = size)
    (hc : (writeN cs off vs).bind normC = some cs') (k : ∀ h', Turned id (.cells t kd cs') h h' → W D (.ops r (put e dst undefA) h') Q) : W D (.ops (⟨dst, .store size x y, none⟩ :: r) e h) Q :=
  W_store hx hy hv hg hk hn (bind_normC hc) (k _ (Turned.set hg))
theorem W_allocT {t : TypeId} {z : List SV} (k : ∀ h', h'.get h.n = some (.cells t .own z) → Sub h h' → h'.n = h.n + 1 → W D (.ops r (put e dst (.sc (.ptr h.n 0))) h') Q) : W D (.ops (⟨dst, .alloc t z, none⟩ :: r) e h) Q :=
  W_alloc (k _ (Heap.get_push_new _ _) (Sub.push _ _) rfl)
theorem W_nil_ptr_f {q : EqQ} {x y : Rnd} {i o : Nat} (hq : q = .ptr) (hx : rd e x = .sc (.ptr i o)) (hy : rd e y = .sc .nilp) (k : W D (.ops r (put e dst (.sc (.bool false))) h) Q) : W D (.ops (⟨dst, .bin .eql q x y, none⟩ :: r) e h) Q := by subst hq; exact W_bin hx hy rfl k
theorem W_nil_ptr_t {q : EqQ} {x y : Rnd} (hq : q = .ptr) (hx : rd e x = .sc .nilp) (hy : rd e y = .sc .nilp) (k : W D (.ops r (put e dst (.sc (.bool true))) h) Q) : W D (.ops (⟨dst, .bin .eql q x y, none⟩ :: r) e h) Q := by subst hq; exact W_bin hx hy rfl k
end
end Go.Jx
namespace Go.Jx
open Go
section
variable {D : Nat → Option MFunc} {Q : Ex → List AV → Heap → Prop} {e : List AV} {h : Heap} {dst : Option Nat} {r : List MI}
theorem W_sliceArrTo {n size : Nat} {x b : Rnd} {id off : Nat} {t : TypeId} {cs : List SV} {j : Int} (hg : h.get id = some (.cells t .own cs)) (hx : rd e x = .sc (.ptr id off)) (hb : rd e b = .sc (.int .i64 j)) (hj : 0 ≤ j ∧ j ≤ n ∧ 0 < n)
    (k : W D (.ops r (put e dst (.sc (.slice id off j.toNat n))) h) Q) : W D (.ops (⟨dst, .sliceArr n size x none (some b), none⟩ :: r) e h) Q := by
  refine W_act rfl (v := .sc (.slice id off j.toNat n)) (h' := h) ?_ k
  have hbd : boundsA n n none (some (.sc (.int .i64 j))) = some (0, j.toNat) := by
    unfold boundsA
    simp only [natA]
    rw [if_pos hj.1]
    simp only
    rw [if_pos (by omega)]
  show (match rd e x with
    | .sc (.ptr id off) => (match boundsA n n ((none : Option Rnd).map (rd e)) ((some b).map (rd e)) with
      | some (l, g) => (match h.get id with | some (.cells _ .own _) => if l = n then none else some (AV.sc (.slice id (off + l * size) (g - l) (n - l)), h) | _ => none)
      | none => none)
    | _ => none) = _
  rw [hx]
  simp only [Option.map_none, Option.map_some, hb, hbd, hg]
  rw [if_neg (by omega)]
  simp
end
end Go.Jx
namespace Go.Jx
open Go
theorem Sub.mod {h0 h h' : Heap} {id : Nat} (s : Sub h0 h) (m : Mod id h h') (hid : h0.n ≤ id) : Sub h0 h' := ⟨Nat.le_trans s.1 m.1, fun j o e => m.2 j o (by have := Heap.get_lt e; omega) (s.2 _ _ e)⟩
theorem Sub.fresh {h h1 h2 : Heap} {id : Nat} {o : AO} (s : Sub h h1) (hid : h.n ≤ id) (t : Turned id o h1 h2) : Sub h h2 := s.mod t.mod hid
theorem Acc.mod {α : Type} {enc : α → List SV} {n b id : Nat} {t : TypeId} {h h' : Heap} {v : SV} {L : List α} (m : Mod id h h') (hb : id < b) (p : Acc b enc n t h v L) : Acc b enc n t h' v L := by
  rcases p with p | ⟨i, cap, kd, cs, h1, h2, h3, h4⟩
  · exact .inl p
  · exact .inr ⟨i, cap, kd, cs, h1, h2, m.2 _ _ (by omega) h3, h4⟩
theorem Keep.get {b : Nat} {h h' : Heap} (k : Keep b h h') {id : Nat} {o : AO} (hid : id < b) (e : h.get id = some o) : h'.get id = some o := k.2 _ _ hid e
end Go.Jx
namespace Go.Jx
theorem Keep.le {b b' : Nat} {h h' : Heap} (k : Keep b h h') (hb : b' ≤ b) : Keep b' h h' := ⟨k.1, fun id o hid e => k.2 id o (by omega) e⟩
end Go.Jx
