/-
  How the plain machine's memory and values stand to the model's.
-/
import Derived.Test.YtfmldkjidfigbaaDoorJxComp
namespace Go.Jx
open Go Go.RowKit
set_option linter.unusedVariables false

/-- Lists that are related one by one. -/
def LR {α β : Type} (R : α → β → Prop) : List α → List β → Prop
  | [], [] => True
  | x :: xs, y :: ys => R x y ∧ LR R xs ys
  | _, _ => False

section LR
variable {α β : Type} {R S : α → β → Prop}
theorem LR.length : ∀ {l : List α} {m : List β}, LR R l m → l.length = m.length
  | [], [], _ => rfl
  | _ :: _, _ :: _, h => by simp [LR.length h.2]
  | [], _ :: _, h => h.elim
  | _ :: _, [], h => h.elim
theorem LR.mono (hs : ∀ a b, R a b → S a b) : ∀ {l : List α} {m : List β}, LR R l m → LR S l m
  | [], [], _ => trivial
  | _ :: _, _ :: _, h => ⟨hs _ _ h.1, LR.mono hs h.2⟩
  | [], _ :: _, h => h.elim
  | _ :: _, [], h => h.elim
theorem LR.get : ∀ {l : List α} {m : List β} {i : Nat} {x : α}, LR R l m → l[i]? = some x → ∃ y, m[i]? = some y ∧ R x y
  | _ :: _, _ :: _, 0, _, h, e => by simp at e; subst e; exact ⟨_, rfl, h.1⟩
  | _ :: _, _ :: _, i + 1, x, h, e => by simp only [List.getElem?_cons_succ] at e ⊢; exact LR.get h.2 e
  | [], [], _, _, _, e => by simp at e
  | [], _ :: _, _, _, h, _ => h.elim
  | _ :: _, [], _, _, h, _ => h.elim
theorem LR.getD {l : List α} {m : List β} (h : LR R l m) {d : α} {d' : β} (hd : R d d') (i : Nat) : R (l.getD i d) (m.getD i d') := by
  cases e : l[i]? with
  | some x => obtain ⟨y, hy, r⟩ := h.get e; simpa [List.getD, e, hy] using r
  | none =>
    have : m[i]? = none := by
      rw [List.getElem?_eq_none_iff] at e ⊢; rw [← h.length]; exact e
    simpa [List.getD, e, this] using hd
theorem LR.set : ∀ {l : List α} {m : List β} (i : Nat) {x : α} {y : β}, LR R l m → R x y → LR R (l.set i x) (m.set i y)
  | [], [], _, _, _, _, _ => trivial
  | _ :: _, _ :: _, 0, _, _, h, r => ⟨r, h.2⟩
  | _ :: _, _ :: _, i + 1, _, _, h, r => ⟨h.1, LR.set i h.2 r⟩
  | [], _ :: _, _, _, _, h, _ => h.elim
  | _ :: _, [], _, _, _, h, _ => h.elim
theorem LR.append : ∀ {l l' : List α} {m m' : List β}, LR R l m → LR R l' m' → LR R (l ++ l') (m ++ m')
  | [], _, [], _, _, h => h
  | _ :: _, _, _ :: _, _, h, h' => ⟨h.1, LR.append h.2 h'⟩
  | [], _, _ :: _, _, h, _ => h.elim
  | _ :: _, _, [], _, h, _ => h.elim
theorem LR.replicate {x : α} {y : β} (r : R x y) : ∀ n, LR R (List.replicate n x) (List.replicate n y)
  | 0 => trivial
  | n + 1 => ⟨r, LR.replicate r n⟩
theorem LR.take : ∀ (n : Nat) {l : List α} {m : List β}, LR R l m → LR R (l.take n) (m.take n)
  | 0, _, _, _ => by simp [LR]
  | _ + 1, [], [], _ => trivial
  | n + 1, _ :: _, _ :: _, h => ⟨h.1, LR.take n h.2⟩
  | _ + 1, [], _ :: _, h => h.elim
  | _ + 1, _ :: _, [], h => h.elim
theorem LR.drop : ∀ (n : Nat) {l : List α} {m : List β}, LR R l m → LR R (l.drop n) (m.drop n)
  | 0, _, _, h => h
  | _ + 1, [], [], _ => trivial
  | n + 1, _ :: _, _ :: _, h => by simpa using LR.drop n h.2
  | _ + 1, [], _ :: _, h => h.elim
  | _ + 1, _ :: _, [], h => h.elim
theorem LR.of_get : ∀ {l : List α} {m : List β}, l.length = m.length → (∀ (i : Nat) (x : α) (y : β), l[i]? = some x → m[i]? = some y → R x y) → LR R l m
  | [], [], _, _ => trivial
  | x :: xs, y :: ys, hl, h => ⟨h 0 x y rfl rfl, LR.of_get (by simpa using hl) (fun i a b ha hb => h (i + 1) a b (by simpa using ha) (by simpa using hb))⟩
  | [], _ :: _, hl, _ => by simp at hl
  | _ :: _, [], hl, _ => by simp at hl
theorem LR.of_get' {l : List α} {m : List β} (hl : l.length = m.length) (h : ∀ (i : Nat) (x : α), l[i]? = some x → ∃ y, m[i]? = some y ∧ R x y) : LR R l m :=
  LR.of_get hl fun i x y hx hy => by obtain ⟨z, hz, r⟩ := h i x hx; rw [hy] at hz; cases hz; exact r
theorem LR.map_left {γ : Type} {f : γ → α} : ∀ {l : List γ} {m : List β}, LR (fun c b => R (f c) b) l m → LR R (l.map f) m
  | [], [], _ => trivial
  | _ :: _, _ :: _, h => ⟨h.1, LR.map_left h.2⟩
  | [], _ :: _, h => h.elim
  | _ :: _, [], h => h.elim
theorem LR.map_both {γ δ : Type} {f : γ → α} {g : δ → β} {T : γ → δ → Prop} (hT : ∀ c d, T c d → R (f c) (g d)) : ∀ {l : List γ} {m : List δ}, LR T l m → LR R (l.map f) (m.map g)
  | [], [], _ => trivial
  | _ :: _, _ :: _, h => ⟨hT _ _ h.1, LR.map_both hT h.2⟩
  | [], _ :: _, h => h.elim
  | _ :: _, [], h => h.elim
end LR

/-- Where an object lies: the block, the first cell, how many elements the block has behind it. -/
structure Tgt where
  block : Nat
  base : Nat
  extra : Nat

abbrev Rho := Nat → Option Tgt

def Tgt.addr (t : Tgt) (off : Nat) : Addr := ⟨t.block, t.base + off, none⟩

def SVR (ρ : Rho) : SV → Value → Prop
  | .bool b, v => v = .bool b
  | .int k n, v => v = .int k n
  | .str s, v => v = .string ⟨s.toArray⟩
  | .nilp, v => v = .pointer none
  | .ptr id off, v => ∃ t, ρ id = some t ∧ v = .pointer (some (t.addr off))
  | .nils, v => v = .slice none 0 0
  | .slice id off len cap, v => ∃ t, ρ id = some t ∧ v = .slice (some (t.addr off)) len (cap + t.extra)
  | .eslice known, v => ∃ a c, v = .slice (some a) 0 c ∧ (known = true → c = 0)
  | .func f caps, v => ∃ l : List Value, v = .func (.func f) #[] l.toArray ∧ LR (fun (c : Nat × Nat) (u : Value) => ∃ t, ρ c.1 = some t ∧ u = .pointer (some (t.addr c.2))) caps l
  | .nilf, v => v = .nilFunc
  | .nili, v => v = .nilIface
  | .anyp, v => ∃ p, v = .pointer p

def AVR1 (ρ : Rho) : AV → Value → Prop
  | .sc s, v => SVR ρ s v
  | .agg cs, v => ∃ l : List Value, v = .agg l.toArray ∧ LR (SVR ρ) cs l
  | .tup _, _ => False

def AVR (ρ : Rho) : AV → Value → Prop
  | .tup vs, v => ∃ l : List Value, v = .tuple l.toArray ∧ LR (AVR1 ρ) vs l
  | x, v => AVR1 ρ x v

abbrev ER (ρ : Rho) (e : List AV) (a : Array Value) : Prop := LR (AVR ρ) e a.toList

def AO.owned : AO → Prop
  | .cells _ k _ => k ≠ .ro
  | .iter _ _ => True
  | .dead => False

def AO.live : AO → Prop
  | .dead => False
  | _ => True

def OR (P : Program) (w0 w : World) (ρ : Rho) (t : Tgt) : AO → Prop
  | .cells ty k cs => ∃ c ty' fz, w.heap[t.block]? = some (.cells c ty' fz) ∧
      (∀ i s, cs[i]? = some s → ∃ v, c[t.base + i]? = some v ∧ SVR ρ s v) ∧
      (k ≠ .ro → t.base = 0 ∧ ty' = ty ∧ w0.heap.size ≤ t.block ∧ (∀ i, i < c.size → ¬ (fz.1 ≤ i ∧ i < fz.2)) ∧ c.size = cs.length + t.extra * P.cellsOf ty) ∧
      (k = .own → t.extra = 0)
  | .iter s pos => w.heap[t.block]? = some (.stringIter ⟨s.toArray⟩ pos) ∧ w0.heap.size ≤ t.block ∧ t.base = 0
  | .dead => True

structure Rel (P : Program) (w0 : World) (ρ : Rho) (H : Heap) (w : World) : Prop where
  below : Below w0.heap.size w0 w
  wf : H.l.length = H.n
  dom : ∀ id t, ρ id = some t → id < H.n
  objs : ∀ id t o, ρ id = some t → H.get id = some o → OR P w0 w ρ t o
  sep : ∀ id id' t t' o o', ρ id = some t → ρ id' = some t' → id ≠ id' → H.get id = some o → H.get id' = some o' → o.owned → o'.live → t.block ≠ t'.block

structure Ext (ρ : Rho) (H : Heap) (ρ' : Rho) (H' : Heap) : Prop where
  sub : ∀ id t, ρ id = some t → ρ' id = some t
  new : ∀ id t, ρ' id = some t → ρ id = some t ∨ H.n ≤ id
  size : H.n ≤ H'.n
  kept : ∀ id, id < H.n → ρ id = none → H'.get id = H.get id

theorem Ext.refl (ρ : Rho) (H : Heap) : Ext ρ H ρ H := ⟨fun _ _ h => h, fun _ _ h => .inl h, Nat.le_refl _, fun _ _ _ => rfl⟩
theorem Ext.trans {ρ ρ' ρ'' : Rho} {H H' H'' : Heap} (h : Ext ρ H ρ' H') (k : Ext ρ' H' ρ'' H'') : Ext ρ H ρ'' H'' where
  sub := fun id t e => k.sub _ _ (h.sub _ _ e)
  new := fun id t e => by
    rcases k.new _ _ e with e | e
    · exact h.new _ _ e
    · exact .inr (Nat.le_trans h.size e)
  size := Nat.le_trans h.size k.size
  kept := fun id hid e => by
    have e' : ρ' id = none := by
      cases e2 : ρ' id with
      | none => rfl
      | some t => rcases h.new _ _ e2 with e3 | e3
                  · rw [e] at e3; cases e3
                  · omega
    rw [k.kept id (Nat.lt_of_lt_of_le hid h.size) e', h.kept id hid e]

theorem SVR.mono {ρ ρ' : Rho} (h : ∀ id t, ρ id = some t → ρ' id = some t) {s : SV} {v : Value} (r : SVR ρ s v) : SVR ρ' s v := by
  cases s <;> simp only [SVR] at r ⊢ <;> try exact r
  case ptr => obtain ⟨t, h1, h2⟩ := r; exact ⟨t, h _ _ h1, h2⟩
  case slice => obtain ⟨t, h1, h2⟩ := r; exact ⟨t, h _ _ h1, h2⟩
  case func => obtain ⟨l, h1, h2⟩ := r; exact ⟨l, h1, h2.mono fun c u ⟨t, a, b⟩ => ⟨t, h _ _ a, b⟩⟩
theorem AVR1.mono {ρ ρ' : Rho} (h : ∀ id t, ρ id = some t → ρ' id = some t) {x : AV} {v : Value} (r : AVR1 ρ x v) : AVR1 ρ' x v := by
  cases x <;> simp only [AVR1] at r ⊢
  case sc => exact r.mono h
  case agg => obtain ⟨l, h1, h2⟩ := r; exact ⟨l, h1, h2.mono fun _ _ => SVR.mono h⟩
theorem AVR.mono {ρ ρ' : Rho} (h : ∀ id t, ρ id = some t → ρ' id = some t) {x : AV} {v : Value} (r : AVR ρ x v) : AVR ρ' x v := by
  cases x <;> simp only [AVR] at r ⊢
  case sc => exact AVR1.mono h r
  case agg => exact AVR1.mono h r
  case tup => obtain ⟨l, h1, h2⟩ := r; exact ⟨l, h1, h2.mono fun _ _ => AVR1.mono h⟩
theorem ER.mono {ρ ρ' : Rho} (h : ∀ id t, ρ id = some t → ρ' id = some t) {e : List AV} {a : Array Value} (r : ER ρ e a) : ER ρ' e a := LR.mono (fun _ _ => AVR.mono h) r
theorem Ext.er {ρ ρ' : Rho} {H H' : Heap} (h : Ext ρ H ρ' H') {e : List AV} {a : Array Value} (r : ER ρ e a) : ER ρ' e a := ER.mono h.sub r

theorem SVR.oneCell {ρ : Rho} {s : SV} {v : Value} (r : SVR ρ s v) : v.oneCell' = true := by
  cases s <;> simp only [SVR] at r <;> first | (subst r; rfl) | (obtain ⟨_, _, rfl⟩ := r; rfl) | (obtain ⟨_, _, rfl, _⟩ := r; rfl) | (obtain ⟨_, rfl, _⟩ := r; rfl) | (obtain ⟨_, rfl⟩ := r; rfl)

theorem AVR.sc {ρ : Rho} {s : SV} {v : Value} : AVR ρ (.sc s) v ↔ SVR ρ s v := Iff.rfl
theorem AVR.agg {ρ : Rho} {cs : List SV} {v : Value} : AVR ρ (.agg cs) v ↔ ∃ l : List Value, v = .agg l.toArray ∧ LR (SVR ρ) cs l := Iff.rfl
theorem AVR.undef (ρ : Rho) : AVR ρ undefA Go.undef := ⟨[], rfl, trivial⟩

theorem cells_AVR {ρ : Rho} {x : AV} {v : Value} {cs : List SV} (h : cellsOfAV x = some cs) (r : AVR ρ x v) : LR (SVR ρ) cs v.cells.toList ∧ v.cells.size = cs.length := by
  cases x with
  | sc s =>
    simp only [cellsOfAV, Option.some.injEq] at h
    subst h
    have r' : SVR ρ s v := r
    have h1 := r'.oneCell
    cases v <;> simp_all [Value.cells, Value.oneCell', LR]
  | agg cs' =>
    simp only [cellsOfAV, Option.some.injEq] at h
    subst h
    obtain ⟨l, rfl, hl⟩ := r
    exact ⟨by simpa [Value.cells] using hl, by simp [Value.cells, hl.length]⟩
  | tup vs => simp [cellsOfAV] at h

theorem Heap.get_push {h : Heap} {o : AO} (hw : h.l.length = h.n) (id : Nat) : (h.push o).get id = if id = h.n then some o else h.get id := by
  simp only [Heap.push, Heap.get]
  by_cases e : id = h.n
  · subst e; simp
  · by_cases l : id < h.n
    · have : h.n + 1 - 1 - id = (h.n - 1 - id) + 1 := by omega
      simp only [this, e, if_false, l, if_true, show id < h.n + 1 by omega, List.getElem?_cons_succ]
    · simp [e, l, show ¬ id < h.n + 1 by omega]
theorem Heap.get_set {h : Heap} {o : AO} (hw : h.l.length = h.n) (id j : Nat) : (h.set id o).get j = if j = id ∧ id < h.n then some o else h.get j := by
  unfold Heap.set
  by_cases l : id < h.n
  · simp only [l, if_true, Heap.get, and_true]
    by_cases e : j = id
    · subst e; simp [l, hw, show h.n - 1 - j < h.n by omega]
    · by_cases lj : j < h.n
      · have : ¬ (h.n - 1 - id = h.n - 1 - j) := by omega
        simp [lj, e, this]
      · simp [lj, e]
  · simp [l]
theorem Heap.push_n (h : Heap) (o : AO) : (h.push o).n = h.n + 1 := rfl
theorem Heap.set_n (h : Heap) (id : Nat) (o : AO) : (h.set id o).n = h.n := by unfold Heap.set; split <;> rfl
theorem Heap.push_wf {h : Heap} (hw : h.l.length = h.n) (o : AO) : (h.push o).l.length = (h.push o).n := by simp [Heap.push, hw]
theorem Heap.set_wf {h : Heap} (hw : h.l.length = h.n) (id : Nat) (o : AO) : (h.set id o).l.length = (h.set id o).n := by unfold Heap.set; split <;> simp [hw]
theorem Heap.get_lt {h : Heap} {id : Nat} {o : AO} (e : h.get id = some o) : id < h.n := by
  unfold Heap.get at e; split at e
  · assumption
  · cases e

/-- Worlds whose memory and streams are the same. -/
theorem Rel.of_eq {P : Program} {w0 : World} {ρ : Rho} {H : Heap} {w w' : World} (r : Rel P w0 ρ H w) (hh : w'.heap = w.heap) (ho : w'.os = w.os) (ht : w'.tape = w.tape) (hu : w'.output = w.output) : Rel P w0 ρ H w' where
  below := r.below.trans ⟨ho, ht, hu, by rw [hh]; exact Nat.le_refl _, fun _ _ => by rw [hh]⟩
  wf := r.wf
  dom := r.dom
  objs := fun id t o h1 h2 => by
    have := r.objs id t o h1 h2
    cases o <;> simp only [OR, hh] at this ⊢ <;> exact this
  sep := r.sep

theorem OR.mono {P : Program} {w0 w : World} {ρ ρ' : Rho} {t : Tgt} {o : AO} (h : ∀ id t, ρ id = some t → ρ' id = some t) (r : OR P w0 w ρ t o) : OR P w0 w ρ' t o := by
  cases o <;> simp only [OR] at r ⊢
  case cells => obtain ⟨c, ty', fz, h1, h2, h3⟩ := r; exact ⟨c, ty', fz, h1, fun i s e => by obtain ⟨v, a, b⟩ := h2 i s e; exact ⟨v, a, b.mono h⟩, h3⟩
  case iter => exact r
theorem OR.block {P : Program} {w0 w w' : World} {ρ : Rho} {t : Tgt} {o : AO} (h : w'.heap[t.block]? = w.heap[t.block]?) (r : OR P w0 w ρ t o) : OR P w0 w' ρ t o := by
  cases o <;> simp only [OR, h] at r ⊢ <;> exact r
theorem OR.lt {P : Program} {w0 w : World} {ρ : Rho} {t : Tgt} {o : AO} (r : OR P w0 w ρ t o) (hl : o.live) : t.block < w.heap.size := by
  cases o <;> simp only [OR, AO.live] at r hl
  case cells => obtain ⟨c, ty', fz, h1, _⟩ := r; exact (Array.getElem?_eq_some_iff.1 h1).1
  case iter => exact (Array.getElem?_eq_some_iff.1 r.1).1

/-- More memory, and all that was there as it was. -/
theorem Rel.later {P : Program} {w0 : World} {ρ : Rho} {H : Heap} {w w' : World} (r : Rel P w0 ρ H w) (hb : Below w.heap.size w w') : Rel P w0 ρ H w' where
  below := r.below.trans ⟨hb.os, hb.tape, hb.output, hb.size, fun k hk => hb.block _ (Nat.lt_of_lt_of_le hk r.below.size)⟩
  wf := r.wf
  dom := r.dom
  objs := fun id t o h1 h2 => by
    have h3 := r.objs id t o h1 h2
    cases o with
    | dead => trivial
    | cells ty k cs => exact OR.block (hb.block _ (h3.lt trivial)) h3
    | iter s p => exact OR.block (hb.block _ (h3.lt trivial)) h3
  sep := r.sep

def Rho.add (ρ : Rho) (id : Nat) (t : Tgt) : Rho := fun i => if i = id then some t else ρ i

/-- A new object in a new block. -/
theorem Rel.push {P : Program} {w0 : World} {ρ : Rho} {H : Heap} {w w' : World} (r : Rel P w0 ρ H w) (b : Obj) (hw' : w'.heap = w.heap.push b) (ho : w'.os = w.os) (ht : w'.tape = w.tape) (hu : w'.output = w.output)
    (extra : Nat) (o : AO) (hor : ∀ ρ', (∀ id t, ρ id = some t → ρ' id = some t) → OR P w0 w' ρ' ⟨w.heap.size, 0, extra⟩ o) :
    Rel P w0 (ρ.add H.n ⟨w.heap.size, 0, extra⟩) (H.push o) w' ∧ Ext ρ H (ρ.add H.n ⟨w.heap.size, 0, extra⟩) (H.push o) := by
  have hsub : ∀ id t, ρ id = some t → (ρ.add H.n ⟨w.heap.size, 0, extra⟩) id = some t := by
    intro id t e
    have := r.dom _ _ e
    simp only [Rho.add]; rw [if_neg (by omega)]; exact e
  have hold : ∀ k, k < w.heap.size → w'.heap[k]? = w.heap[k]? := by
    intro k hk; rw [hw', Array.getElem?_push, if_neg (by omega)]
  refine ⟨⟨?_, Heap.push_wf r.wf o, ?_, ?_, ?_⟩, ⟨hsub, ?_, by simp [Heap.push_n], ?_⟩⟩
  · exact r.below.trans ⟨ho, ht, hu, by rw [hw']; simp, fun k hk => hold k (Nat.lt_of_lt_of_le hk r.below.size)⟩
  · intro id t e
    simp only [Rho.add] at e
    split at e
    · subst_vars; simp [Heap.push_n]
    · have := r.dom _ _ e; simp only [Heap.push_n]; omega
  · intro id t o' e he
    rw [Heap.get_push r.wf] at he
    simp only [Rho.add] at e
    by_cases hid : id = H.n
    · simp only [hid, if_true, Option.some.injEq] at e he
      subst e; subst he
      exact hor _ hsub
    · rw [if_neg hid] at e he
      have h1 := r.objs id t o' e he
      cases o' with
      | dead => trivial
      | cells ty k cs => exact OR.mono hsub (OR.block (hold _ (h1.lt trivial)) h1)
      | iter s p => exact OR.mono hsub (OR.block (hold _ (h1.lt trivial)) h1)
  · intro id id' t t' o1 o2 e e' hne h1 h2 hown hlive
    rw [Heap.get_push r.wf] at h1 h2
    simp only [Rho.add] at e e'
    by_cases hid : id = H.n
    · by_cases hid' : id' = H.n
      · omega
      · rw [if_pos hid] at e; rw [if_neg hid'] at e' h2
        cases e
        have := (r.objs _ _ _ e' h2).lt hlive
        simp; omega
    · rw [if_neg hid] at e h1
      have hl1 : o1.live := by cases o1 <;> simp_all [AO.owned, AO.live]
      have l1 := (r.objs _ _ _ e h1).lt hl1
      by_cases hid' : id' = H.n
      · rw [if_pos hid'] at e'
        cases e'
        simp; omega
      · rw [if_neg hid'] at e' h2
        exact r.sep _ _ _ _ _ _ e e' hne h1 h2 hown hlive
  · intro id t e
    simp only [Rho.add] at e
    split at e
    · subst_vars; exact .inr (Nat.le_refl _)
    · exact .inl e
  · intro id hid e
    rw [Heap.get_push r.wf, if_neg (by omega)]

/-- An object of the call's own turns, and its block alone. -/
theorem Rel.turn {P : Program} {w0 : World} {ρ : Rho} {H : Heap} {w w' : World} (r : Rel P w0 ρ H w) {id : Nat} {t : Tgt} {o o' : AO} (hid : ρ id = some t) (hg : H.get id = some o) (hown : o.owned)
    (hw' : ∀ k, k ≠ t.block → w'.heap[k]? = w.heap[k]?) (hsz : w'.heap.size = w.heap.size) (ho : w'.os = w.os) (ht : w'.tape = w.tape) (hu : w'.output = w.output)
    (hor : OR P w0 w' ρ t o') (hb : w0.heap.size ≤ t.block) :
    Rel P w0 ρ (H.set id o') w' ∧ Ext ρ H ρ (H.set id o') := by
  have hlt := Heap.get_lt hg
  refine ⟨⟨?_, Heap.set_wf r.wf _ _, ?_, ?_, ?_⟩, ⟨fun _ _ h => h, fun _ _ h => .inl h, by rw [Heap.set_n]; exact Nat.le_refl _, ?_⟩⟩
  · exact r.below.trans ⟨ho, ht, hu, by rw [hsz]; exact Nat.le_refl _, fun k hk => hw' k (by omega)⟩
  · intro j u e; rw [Heap.set_n]; exact r.dom _ _ e
  · intro j u p e he
    rw [Heap.get_set r.wf] at he
    by_cases hj : j = id
    · subst hj
      rw [hid] at e; cases e
      simp only [hlt, and_self, if_true, Option.some.injEq] at he
      subst he; exact hor
    · rw [if_neg (by simp [hj])] at he
      have h1 := r.objs j u p e he
      cases p with
      | dead => trivial
      | cells ty k cs => exact OR.block (hw' _ (r.sep id j t u o _ hid e (Ne.symm hj) hg he hown trivial).symm) h1
      | iter s q => exact OR.block (hw' _ (r.sep id j t u o _ hid e (Ne.symm hj) hg he hown trivial).symm) h1
  · intro i j u u' p p' e e' hne h1 h2 ow lv
    rw [Heap.get_set r.wf] at h1 h2
    have aux : ∀ (m : Nat) (q : AO), (if m = id ∧ id < H.n then some o' else H.get m) = some q → ∃ q', H.get m = some q' ∧ (q.owned → q'.owned) ∧ (q.live → q'.live) := by
      intro m q hm
      by_cases hmid : m = id
      · subst hmid
        refine ⟨o, hg, fun _ => hown, fun _ => ?_⟩
        cases o <;> simp_all [AO.owned, AO.live]
      · rw [if_neg (by simp [hmid])] at hm
        exact ⟨q, hm, fun h => h, fun h => h⟩
    obtain ⟨q, a1, a2, _⟩ := aux i p h1
    obtain ⟨q', b1, _, b3⟩ := aux j p' h2
    exact r.sep _ _ _ _ _ _ e e' hne a1 b1 (a2 ow) (b3 lv)
  · intro j hj e
    rw [Heap.get_set r.wf, if_neg]
    rintro ⟨rfl, _⟩
    rw [hid] at e; cases e

end Go.Jx
