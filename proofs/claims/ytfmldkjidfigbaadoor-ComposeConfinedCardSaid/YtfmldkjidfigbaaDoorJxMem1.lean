/-
  Memory: what is read and what is written, in the plain machine and in the model.
-/
import Derived.Test.YtfmldkjidfigbaaDoorJxSnd4
namespace Go.Jx
open Go Go.RowKit
set_option linter.unusedSimpArgs false
set_option linter.unusedVariables false

section
variable {P : Program} {w0 w : World} {ρ : Rho} {H : Heap} {e : List AV} {a : Act} {X : Exts}

/-- What an operation does: a value, a new state of memory. -/
def Does (P : Program) (w0 : World) (ρ : Rho) (H : Heap) (w : World) (s : Sem Next) (v : AV) (H' : Heap) : Prop :=
  ∃ ρ' w' u, (s.run P w = .ok (.value u) w' ∨ (s.run P w = .ok .skip w' ∧ u = Go.undef)) ∧ AVR ρ' v u ∧ Rel P w0 ρ' H' w' ∧ Ext ρ H ρ' H'

theorem Does.value {s : Sem Value} {v : AV} {H' : Heap} {ρ' : Rho} {w' : World} {u : Value} (h : s.run P w = .ok u w') (hv : AVR ρ' v u) (hr : Rel P w0 ρ' H' w') (hx : Ext ρ H ρ' H') :
    Does P w0 ρ H w (do pure (.value (← s))) v H' :=
  ⟨ρ', w', u, .inl (by simp only [Sem.run_bind, h, Result.andThen_ok, Sem.run_pure]), hv, hr, hx⟩
theorem Does.same {s : Sem Value} {v : AV} {u : Value} (hr : Rel P w0 ρ H w) (h : s.run P w = .ok u w) (hv : AVR ρ v u) : Does P w0 ρ H w (do pure (.value (← s))) v H :=
  Does.value h hv hr (Ext.refl _ _)
theorem Does.unit {s : Sem Unit} {H' : Heap} {ρ' : Rho} {w' : World} (h : s.run P w = .ok () w') (hr : Rel P w0 ρ' H' w') (hx : Ext ρ H ρ' H') :
    Does P w0 ρ H w (do s; pure .skip) undefA H' :=
  ⟨ρ', w', undef, .inr ⟨by simp only [Sem.run_bind, h, Result.andThen_ok, Sem.run_pure], rfl⟩, AVR.undef _, hr, hx⟩

theorem cell_at {t : Tgt} {c : Array Value} {ty : TypeId} {fz : Nat × Nat} (h : w.heap[t.block]? = some (.cells c ty fz)) (off : Nat) : w.cell? (t.addr off) = c[t.base + off]? := by
  simp [World.cell?, Tgt.addr, h]

theorem read_cells {t : Tgt} {ty : TypeId} {k : Kind} {cs seg : List SV} {off n : Nat} (ho : OR P w0 w ρ t (.cells ty k cs)) (h : readN cs off n = some seg) :
    ∃ l : List Value, LR (SVR ρ) seg l ∧ l.length = n ∧ ∀ j v, l[j]? = some v → w.cell? ((t.addr off).add j) = some v := by
  obtain ⟨c, ty', fz, h1, h2, _⟩ := ho
  unfold readN at h
  split at h
  · rename_i hle
    cases h
    have hsz : ∀ i, i < cs.length → t.base + i < c.size := by
      intro i hi
      obtain ⟨v, hv, _⟩ := h2 i cs[i] (by simp [hi])
      exact (Array.getElem?_eq_some_iff.1 hv).1
    have hl : ((c.toList.drop (t.base + off)).take n).length = n := by
      simp only [List.length_take, List.length_drop, Array.length_toList]
      rcases Nat.eq_zero_or_pos n with h0 | h0
      · subst h0; simp
      · have := hsz (off + n - 1) (by omega)
        omega
    have hget : ∀ j, j < n → ((c.toList.drop (t.base + off)).take n)[j]? = c[t.base + (off + j)]? := by
      intro j hj
      rw [List.getElem?_take, if_pos hj, List.getElem?_drop, Array.getElem?_toList, Nat.add_assoc]
    refine ⟨(c.toList.drop (t.base + off)).take n, ?_, hl, ?_⟩
    · refine LR.of_get' (by rw [hl]; simp; omega) fun i x hx => ?_
      have hin : i < n := by
        have := (List.getElem?_eq_some_iff.1 hx).1
        simp at this; omega
      have hx' : cs[off + i]? = some x := by
        rw [List.getElem?_take, if_pos hin, List.getElem?_drop] at hx
        exact hx
      obtain ⟨v, hv, rv⟩ := h2 _ _ hx'
      exact ⟨v, by rw [hget i hin]; exact hv, rv⟩
    · intro j v hv
      have hin : j < n := by
        have := (List.getElem?_eq_some_iff.1 hv).1
        rw [hl] at this; exact this
      rw [hget j hin] at hv
      rw [addr_add, cell_at h1]; exact hv
  · cases h

theorem run_loadN {l : List Value} {ad : Addr} {n : Nat} (hl : l.length = n) (h : ∀ j v, l[j]? = some v → w.cell? (ad.add j) = some v) : (loadCells ad n).run P w = .ok l.toArray w := by
  subst hl
  exact run_loadCells_list w ad l h

theorem load_sound (hr : Rel P w0 ρ H w) {t : TypeId} {g : Option Nat} {x v : AV} {u : Value} (hg : agg? P t = some g) (hx : AVR ρ x u) (h : loadA g x H = some v) : ∃ r, (Instr.loadAt t u).run P w = .ok r w ∧ AVR ρ v r := by
  unfold loadA at h
  split at h
  · rename_i id off
    obtain ⟨tg, ht, rfl⟩ := hx
    split at h
    · rename_i ty k cs hget
      have ho := hr.objs _ _ _ ht hget
      obtain ⟨h1, h2⟩ := run_isAgg (w := w) hg
      unfold partA at h
      cases g with
      | some n =>
        simp only [Option.map_eq_some_iff] at h
        obtain ⟨seg, hs, rfl⟩ := h
        obtain ⟨l, r1, r2, r3⟩ := read_cells ho hs
        refine ⟨.agg l.toArray, ?_, ⟨l, rfl, r1⟩⟩
        simp only [Instr.loadAt, Instr.sureAddr, loadVar, Sem.run_bind, Sem.run_pure, Result.andThen_ok, h1, Option.isSome_some, if_true, run_sizeOf (h2 n rfl), run_loadN r2 r3]
      | none =>
        simp only [Option.map_eq_some_iff] at h
        obtain ⟨s, hs, rfl⟩ := h
        obtain ⟨c, ty', fz, a1, a2, _⟩ := ho
        obtain ⟨z, hz, rz⟩ := a2 _ _ hs
        refine ⟨z, ?_, rz⟩
        simp only [Instr.loadAt, Instr.sureAddr, loadVar, Sem.run_bind, Sem.run_pure, Result.andThen_ok, h1, Option.isSome_none, Bool.false_eq_true, if_false, run_load, cell_at a1, hz]
    · cases h
  · cases h

/-- Stores, one behind the other, into one block. -/
theorem run_stores (g o : Nat) (t : TypeId) (fz : Nat × Nat) : ∀ (vs : List Value) (i : Nat) (cur : Array Value) (w : World), w.heap[g]? = some (.cells cur t fz) → (∀ j, j < cur.size → ¬ (fz.1 ≤ j ∧ j < fz.2)) →
    o + i + vs.length ≤ cur.size → (∀ v ∈ vs, v.oneCell' = true) →
    ∃ w' cur', (storeCells ⟨g, o, none⟩ vs i).run P w = .ok () w' ∧ w'.heap[g]? = some (.cells cur' t fz) ∧ cur'.toList = cur.toList.take (o + i) ++ vs ++ cur.toList.drop (o + i + vs.length) ∧
      (∀ k, k ≠ g → w'.heap[k]? = w.heap[k]?) ∧ w'.heap.size = w.heap.size ∧ w'.os = w.os ∧ w'.tape = w.tape ∧ w'.output = w.output
  | [], i, cur, w, hg, hf, hl, h1 => ⟨w, cur, rfl, hg, by simp, fun _ _ => rfl, rfl, rfl, rfl, rfl⟩
  | v :: vs, i, cur, w, hg, hf, hl, h1 => by
    simp only [List.length_cons] at hl
    have hadd : (⟨g, o, none⟩ : Addr).add i = ⟨g, o + i, none⟩ := by unfold Addr.add; split <;> simp_all
    have hcell : w.cell? ⟨g, o + i, none⟩ = some cur[o + i] := by
      have : o + i < cur.size := by omega
      simp [World.cell?, hg, this]
    have hfro : w.frozen? ⟨g, o + i, none⟩ = false := by
      have := hf (o + i) (by omega)
      simp only [World.frozen?, hg]
      simp only [Bool.and_eq_false_iff, decide_eq_false_iff_not]
      rcases Nat.lt_or_ge (o + i) fz.1 with h | h
      · left; omega
      · right; intro hh; exact this ⟨h, hh⟩
    have hst : (store ((⟨g, o, none⟩ : Addr).add i) v).run P w = .ok () (w.setCell ⟨g, o + i, none⟩ v) := by
      rw [run_store P w _ v .plain (h1 v (by simp)), hadd, hcell, hfro]
      simp
    have hg' : (w.setCell ⟨g, o + i, none⟩ v).heap[g]? = some (.cells (cur.setIfInBounds (o + i) v) t fz) := by
      simp [World.setCell, Array.getElem?_modify, hg]
    obtain ⟨w', cur', r1, r2, r3, r4, r5, r6, r7, r8⟩ := run_stores g o t fz vs (i + 1) (cur.setIfInBounds (o + i) v) (w.setCell ⟨g, o + i, none⟩ v) hg' (by simpa using hf) (by simp; omega) (fun u hu => h1 u (by simp [hu]))
    refine ⟨w', cur', ?_, r2, ?_, ?_, ?_, ?_, ?_, ?_⟩
    · simp only [storeCells, Sem.run_bind, hst, Result.andThen_ok]; exact r1
    · rw [r3]
      have key := foldl_put (v :: vs) i o cur (by simp; omega)
      have key2 := foldl_put vs (i + 1) o (cur.setIfInBounds (o + i) v) (by simp; omega)
      simp only [List.zipIdx_cons, List.foldl_cons] at key
      rw [key] at key2
      simpa [Nat.add_assoc] using key2.symm
    · intro k hk
      rw [r4 k hk]
      simp only [World.setCell, Array.getElem?_modify]
      rw [if_neg (by omega)]
    · rw [r5]; simp [World.setCell]
    · rw [r6]; rfl
    · rw [r7]; rfl
    · rw [r8]; rfl

/-- Cells of an object of the call's own are written. -/
theorem write_sound (hr : Rel P w0 ρ H w) {id off : Nat} {t : Tgt} {ty : TypeId} {k : Kind} {cs vs cs' : List SV} {l : List Value} (hid : ρ id = some t) (hg : H.get id = some (.cells ty k cs)) (hk : k ≠ .ro)
    (hw : writeN cs off vs = some cs') (hl : LR (SVR ρ) vs l) :
    ∃ w', (storeCells (t.addr off) l).run P w = .ok () w' ∧ Rel P w0 ρ (H.set id (.cells ty k cs')) w' ∧ Ext ρ H ρ (H.set id (.cells ty k cs')) := by
  obtain ⟨c, ty', fz, h1, h2, h3, h4⟩ := hr.objs _ _ _ hid hg
  obtain ⟨b1, b2, b3, b4, b5⟩ := h3 hk
  have hlen : cs'.length = cs.length ∧ off + l.length ≤ cs.length := by
    unfold writeN at hw
    split at hw
    · cases hw; rw [← hl.length]; simp; omega
    · cases hw
  have hone : ∀ v ∈ l, v.oneCell' = true := by
    intro v hv
    obtain ⟨i, hi, e⟩ := List.getElem_of_mem hv
    have hi' : i < vs.length := by rw [hl.length]; exact hi
    obtain ⟨y, hy, ry⟩ := hl.get (i := i) (x := vs[i]) (by simp [hi'])
    rw [List.getElem?_eq_getElem hi, Option.some.injEq] at hy
    rw [← e, hy]; exact ry.oneCell
  have hsz : off + l.length ≤ c.size := by rw [b5]; omega
  have haddr : t.addr off = ⟨t.block, off, none⟩ := by simp [Tgt.addr, b1]
  obtain ⟨w', cur', r1, r2, r3, r4, r5, r6, r7, r8⟩ := run_stores (P := P) t.block off ty' fz l 0 c w h1 b4 (by simpa using hsz) hone
  refine ⟨w', by rw [haddr]; exact r1, ?_⟩
  simp only [Nat.add_zero] at r3
  have hcs : ∀ i s, cs'[i]? = some s → ∃ v, cur'[t.base + i]? = some v ∧ SVR ρ s v := by
    intro i s hs
    rw [b1, Nat.zero_add, ← Array.getElem?_toList, r3]
    unfold writeN at hw
    split at hw
    · cases hw
      rw [hl.length] at hs
      have ltk : (List.take off cs).length = off := by simp; omega
      have ltk' : (List.take off c.toList).length = off := by simp; omega
      rw [List.append_assoc, List.getElem?_append, ltk] at hs
      rw [List.append_assoc, List.getElem?_append, ltk']
      split at hs
      · rename_i hi
        rw [if_pos hi]
        rw [List.getElem?_take, if_pos hi] at hs ⊢
        obtain ⟨v, hv, rv⟩ := h2 i s hs
        rw [b1, Nat.zero_add] at hv
        exact ⟨v, by rw [Array.getElem?_toList]; exact hv, rv⟩
      · rename_i hi
        rw [if_neg hi]
        rw [List.getElem?_append, hl.length] at hs
        rw [List.getElem?_append]
        split at hs
        · rename_i hj
          rw [if_pos hj]
          exact hl.get hs
        · rename_i hj
          rw [if_neg hj]
          rw [List.getElem?_drop] at hs ⊢
          obtain ⟨v, hv, rv⟩ := h2 _ s hs
          rw [b1, Nat.zero_add] at hv
          exact ⟨v, by rw [Array.getElem?_toList]; exact hv, rv⟩
    · cases hw
  have hcsz : cur'.size = c.size := by
    rw [← Array.length_toList, r3]; simp; omega
  refine hr.turn hid hg hk r4 r5 r6 r7 r8 ?_ b3
  exact ⟨cur', ty', fz, r2, hcs, fun _ => ⟨b1, b2, b3, fun i hi => b4 i (by omega), by rw [hcsz, b5, hlen.1]⟩, h4⟩

theorem store_sound (hr : Rel P w0 ρ H w) {t : TypeId} {n : Nat} {x v : AV} {ux uv : Value} {H' : Heap} (hn : size? P t = some n) (hx : AVR ρ x ux) (hv : AVR ρ v uv) (h : storeA n x v H = some H') :
    ∃ w', (Instr.storeAt t ux uv).run P w = .ok () w' ∧ Rel P w0 ρ H' w' ∧ Ext ρ H ρ H' := by
  unfold storeA at h
  split at h
  · rename_i id off
    obtain ⟨tg, ht, rfl⟩ := hx
    split at h
    · rename_i ty k cs vs hget hcv
      split at h
      · rename_i hk
        simp only [Option.map_eq_some_iff] at h
        obtain ⟨cs', hw, rfl⟩ := h
        obtain ⟨c1, c2⟩ := cells_AVR hcv hv
        obtain ⟨w', r1, r2⟩ := write_sound hr ht hget hk.2 hw c1
        refine ⟨w', ?_, r2⟩
        simp only [Instr.storeAt, Instr.sureAddr, storeVar, Sem.run_bind, Sem.run_pure, Result.andThen_ok, run_sizeOf hn, c2, hk.1, ne_eq, not_true_eq_false, if_false]
        exact r1
      · cases h
    · cases h
  · cases h

/-- A new block of cells. -/
theorem new_sound (hr : Rel P w0 ρ H w) (ty : TypeId) (k : Kind) (cs : List SV) (c : List Value) (rest : List Value) (extra : Nat) (hl : LR (SVR ρ) cs c) (hk : k = .own → extra = 0) (hrest : rest.length = extra * P.cellsOf ty) :
    Rel P w0 (ρ.add H.n ⟨w.heap.size, 0, extra⟩) (H.push (.cells ty k cs)) { w with heap := w.heap.push (.cells (c ++ rest).toArray ty) } ∧
      Ext ρ H (ρ.add H.n ⟨w.heap.size, 0, extra⟩) (H.push (.cells ty k cs)) := by
  refine hr.push (w' := { w with heap := w.heap.push (.cells (c ++ rest).toArray ty) }) (.cells (c ++ rest).toArray ty) rfl rfl rfl rfl extra (.cells ty k cs) fun ρ' hsub => ?_
  refine ⟨(c ++ rest).toArray, ty, (0, 0), by simp, fun i s hs => ?_, fun _ => ⟨rfl, rfl, hr.below.size, fun i _ => by simp, ?_⟩, hk⟩
  · obtain ⟨v, hv, rv⟩ := hl.get hs
    refine ⟨v, ?_, rv.mono hsub⟩
    have : i < c.length := (List.getElem?_eq_some_iff.1 hv).1
    simp [List.getElem?_append, this]
    exact (List.getElem?_eq_some_iff.1 hv).2
  · simp [hl.length, hrest]

theorem add_self (ρ : Rho) (id : Nat) (t : Tgt) : (ρ.add id t) id = some t := by simp [Rho.add]

end
end Go.Jx
