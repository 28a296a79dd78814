/-
  Memory: append, copy, slicing and the like, in the plain machine and in the model.
-/
import Derived.Test.YtfmldkjidfigbaaDoorJxMem1
namespace Go.Jx
open Go Go.RowKit
set_option linter.unusedSimpArgs false
set_option linter.unusedVariables false

section
variable {P : Program} {w0 w : World} {ρ : Rho} {H : Heap} {e : List AV} {a : Act} {X : Exts}

theorem zerosA_length (z : List SV) : ∀ n, (zerosA z n).length = n * z.length
  | 0 => by simp [zerosA]
  | n + 1 => by simp [zerosA, zerosA_length z n, Nat.succ_mul]; omega
theorem zerosA_get (z : List SV) : ∀ n i, i < n * z.length → (zerosA z n)[i]? = z[i % z.length]?
  | 0, i, h => by simp at h
  | n + 1, i, h => by
    simp only [zerosA]
    rw [List.getElem?_append]
    by_cases hi : i < z.length
    · rw [if_pos hi, Nat.mod_eq_of_lt hi]
    · rw [if_neg hi, zerosA_get z n _ (by rw [Nat.succ_mul] at h; omega)]
      congr 1
      exact (Nat.mod_eq_sub_mod (by omega)).symm
theorem zeros_sound {z : List SV} {v : Array Value} (hz : LR (SVR ρ) z v.toList) (n : Nat) : LR (SVR ρ) (zerosA z n) ((Array.range (n * v.size)).map fun i => v[i % v.size]!).toList := by
  have hl : z.length = v.size := by rw [hz.length]; simp
  refine LR.of_get' (by simp [zerosA_length, hl]) fun i x hx => ?_
  have hi : i < n * z.length := by
    have := (List.getElem?_eq_some_iff.1 hx).1
    rwa [zerosA_length] at this
  have h0 : 0 < z.length := by
    rcases Nat.eq_zero_or_pos z.length with h | h
    · rw [h] at hi; simp at hi
    · exact h
  rw [zerosA_get z n i hi] at hx
  obtain ⟨y, hy, r⟩ := hz.get hx
  refine ⟨y, ?_, r⟩
  have hm : i % v.size < v.size := Nat.mod_lt _ (by omega)
  rw [Array.getElem?_toList, hl] at hy
  have hi' : i < n * v.size := by rw [← hl]; exact hi
  simp only [Array.toList_map, Array.toList_range, List.getElem?_map, List.getElem?_range hi', Option.map_some, Option.some.injEq]
  rw [getElem!_pos v (i % v.size) hm]
  rw [getElem?_pos v (i % v.size) hm, Option.some.injEq] at hy
  exact hy

theorem new_own (hr : Rel P w0 ρ H w) (ty : TypeId) (cs : List SV) (c : Array Value) (hl : LR (SVR ρ) cs c.toList) :
    Rel P w0 (ρ.add H.n ⟨w.heap.size, 0, 0⟩) (H.push (.cells ty .own cs)) { w with heap := w.heap.push (.cells c ty) } ∧ Ext ρ H (ρ.add H.n ⟨w.heap.size, 0, 0⟩) (H.push (.cells ty .own cs)) := by
  have := new_sound hr ty .own cs c.toList [] 0 hl (fun _ => rfl) (by simp)
  simpa using this

theorem room_next {need cap bytes : Nat} (h : roomA need bytes = true) (hc : cap < need) : ¬ (Builtin.nextslicecap need cap * bytes > 2 ^ 48) ∧ 0 < bytes := by
  unfold roomA at h
  simp only [decide_eq_true_eq] at h
  refine ⟨?_, h.1⟩
  have hb : ∀ r c, c ≤ 2 * need → Builtin.growBy need r c ≤ 4 * need + 1000 := by
    intro r
    induction r with
    | zero => intro c hc; simp only [Builtin.growBy]; omega
    | succ r ih =>
      intro c hc
      simp only [Builtin.growBy]
      split
      · omega
      · rename_i hlt
        rcases Nat.lt_or_ge (2 * need) (c + (c + 768) / 4) with h1 | h1
        · -- one round more at most
          have : c + (c + 768) / 4 ≥ need := by omega
          cases r with
          | zero => simp only [Builtin.growBy]; omega
          | succ r => simp only [Builtin.growBy]; rw [if_pos this]; omega
        · exact ih _ h1
  have : Builtin.nextslicecap need cap ≤ 4 * need + 1000 := by
    unfold Builtin.nextslicecap
    split
    · omega
    · split
      · omega
      · exact hb _ _ (by omega)
  have h2 := Nat.mul_le_mul_right bytes this
  omega

theorem roomC_of {need cap bytes : Nat} (h : roomA need bytes = true) : roomC need cap bytes = true := by unfold roomC; rw [h]; rfl
theorem room_nextC {need cap bytes : Nat} (h : roomC need cap bytes = true) (hc : cap < need) : ¬ (Builtin.nextslicecap need cap * bytes > 2 ^ 48) ∧ 0 < bytes := by
  unfold roomC at h
  rw [Bool.or_eq_true] at h
  rcases h with h | h
  · exact room_next h hc
  · simp only [decide_eq_true_eq] at h
    refine ⟨?_, h.2.1⟩
    unfold Builtin.nextslicecap
    rw [if_pos (show need > 2 * cap from h.1)]
    omega

theorem run_firstCells (hr : Rel P w0 ρ H w) {size n : Nat} {x : AV} {u : Value} {cs : List SV} (hx : AVR ρ x u) (h : firstA size n x H = some cs) :
    ∃ l : List Value, (Builtin.firstCells size n u).run P w = .ok l.toArray w ∧ LR (SVR ρ) cs l := by
  unfold firstA at h
  split at h
  · cases h; cases hx; exact ⟨[], rfl, trivial⟩
  · split at h
    · rename_i hn; cases h; subst hn
      obtain ⟨ad, c, rfl, _⟩ := hx
      refine ⟨[], ?_, trivial⟩
      simp [Builtin.firstCells, loadCells, loadCellsFrom]
    · cases h
  · rename_i id off len cap
    obtain ⟨t, ht, rfl⟩ := hx
    split at h
    · rename_i h0; cases h
      refine ⟨[], ?_, trivial⟩
      simp [Builtin.firstCells, h0, loadCells, loadCellsFrom]
    · split at h
      · rename_i ty k c hg
        obtain ⟨l, r1, r2, r3⟩ := read_cells (hr.objs _ _ _ ht hg) h
        exact ⟨l, by simp only [Builtin.firstCells]; exact run_loadN r2 r3, r1⟩
      · cases h
  · rename_i s
    cases h
    have hx : u = .string ⟨s.toArray⟩ := hx
    subst hx
    refine ⟨(s.take n).map fun b => .int .u8 b.toNat, ?_, ?_⟩
    · simp only [Builtin.firstCells, Sem.run_pure]
      congr 1
      apply Array.ext'
      simp [ByteArray.data_extract]
    · exact LR.map_both (T := fun c d => c = d) (fun c d h => by subst h; rfl) (LR.of_get' rfl fun i x hx => ⟨x, hx, rfl⟩)
  · cases h

theorem run_lenOf {x : AV} {u : Value} {n : Nat} (hx : AVR ρ x u) (h : lenA x = some n) : (Builtin.lenOf u).run P w = .ok n w := by
  unfold lenA at h
  split at h
  · cases h; cases hx; rfl
  · cases h; obtain ⟨_, _, rfl, _⟩ := hx; rfl
  · cases h; obtain ⟨_, _, rfl⟩ := hx; rfl
  · cases h
    rename_i s
    have hx : u = .string ⟨s.toArray⟩ := hx
    subst hx
    simp [Builtin.lenOf, ByteArray.size]
  · cases h

/-- An object of the call's own is given up. -/
theorem Rel.kill (r : Rel P w0 ρ H w) {id : Nat} {t : Tgt} (hid : ρ id = some t) : Rel P w0 ρ (H.set id .dead) w ∧ Ext ρ H ρ (H.set id .dead) := by
  refine ⟨⟨r.below, Heap.set_wf r.wf _ _, fun j u e => by rw [Heap.set_n]; exact r.dom _ _ e, ?_, ?_⟩, ⟨fun _ _ h => h, fun _ _ h => .inl h, by rw [Heap.set_n]; exact Nat.le_refl _, ?_⟩⟩
  · intro j u o e he
    rw [Heap.get_set r.wf] at he
    split at he
    · cases he; trivial
    · exact r.objs _ _ _ e he
  · intro i j u u' o o' e e' hne h1 h2 ow lv
    rw [Heap.get_set r.wf] at h1 h2
    split at h1
    · cases h1; exact ow.elim
    · split at h2
      · cases h2; exact lv.elim
      · exact r.sep _ _ _ _ _ _ e e' hne h1 h2 ow lv
  · intro j hj e
    rw [Heap.get_set r.wf, if_neg]
    rintro ⟨rfl, _⟩
    rw [hid] at e; cases e

/-- A new id for the block of one that is given up. -/
theorem Rel.rehome (r : Rel P w0 ρ H w) {id : Nat} {t : Tgt} {o : AO} (hid : ρ id = some t) (hg : H.get id = some o) (hown : o.owned) {w' : World}
    (hw' : ∀ k, k ≠ t.block → w'.heap[k]? = w.heap[k]?) (hsz : w'.heap.size = w.heap.size) (ho : w'.os = w.os) (ht : w'.tape = w.tape) (hu : w'.output = w.output) (hb : w0.heap.size ≤ t.block)
    (extra : Nat) (o' : AO) (hor : OR P w0 w' ρ ⟨t.block, 0, extra⟩ o') :
    Rel P w0 (ρ.add H.n ⟨t.block, 0, extra⟩) ((H.set id .dead).push o') w' ∧ Ext ρ H (ρ.add H.n ⟨t.block, 0, extra⟩) ((H.set id .dead).push o') := by
  have hlt := Heap.get_lt hg
  have hsub : ∀ id' t', ρ id' = some t' → (ρ.add H.n ⟨t.block, 0, extra⟩) id' = some t' := by
    intro id' t' e'
    have := r.dom _ _ e'
    simp only [Rho.add]; rw [if_neg (by omega)]; exact e'
  have hwf := Heap.set_wf r.wf id .dead
  have hget : ∀ j, ((H.set id .dead).push o').get j = if j = H.n then some o' else if j = id then some .dead else H.get j := by
    intro j
    rw [Heap.get_push hwf, Heap.set_n]
    by_cases hj : j = H.n
    · rw [if_pos hj, if_pos hj]
    · rw [if_neg hj, if_neg hj, Heap.get_set r.wf]
      by_cases hj2 : j = id <;> simp [hj2, hlt]
  refine ⟨⟨?_, Heap.push_wf hwf o', ?_, ?_, ?_⟩, ⟨hsub, ?_, by rw [Heap.push_n, Heap.set_n]; omega, ?_⟩⟩
  · exact r.below.trans ⟨ho, ht, hu, by rw [hsz]; exact Nat.le_refl _, fun k hk => hw' k (by omega)⟩
  · intro j u e
    simp only [Rho.add] at e
    rw [Heap.push_n, Heap.set_n]
    split at e
    · omega
    · have := r.dom _ _ e; omega
  · intro j u p e he
    rw [hget] at he
    simp only [Rho.add] at e
    by_cases hj : j = H.n
    · rw [if_pos hj] at e he
      cases e; cases he
      exact hor.mono hsub
    · rw [if_neg hj] at e he
      by_cases hj2 : j = id
      · rw [if_pos hj2] at he; cases he; trivial
      · rw [if_neg hj2] at he
        have h1 := r.objs j u p e he
        cases p with
        | dead => trivial
        | cells ty k cs => exact OR.mono hsub (OR.block (hw' _ (r.sep id j t u o _ hid e (Ne.symm hj2) hg he hown trivial).symm) h1)
        | iter s q => exact OR.mono hsub (OR.block (hw' _ (r.sep id j t u o _ hid e (Ne.symm hj2) hg he hown trivial).symm) h1)
  · intro i j u u' p p' e e' hne h1 h2 ow lv
    rw [hget] at h1 h2
    simp only [Rho.add] at e e'
    have hl : ∀ {q : AO}, q.owned → q.live := by intro q; cases q <;> simp [AO.owned, AO.live]
    by_cases hi : i = H.n
    · rw [if_pos hi] at e h1
      cases e; cases h1
      have hj : j ≠ H.n := fun hh => hne (hi.trans hh.symm)
      rw [if_neg hj] at e' h2
      by_cases hj2 : j = id
      · rw [if_pos hj2] at h2; cases h2; exact lv.elim
      · rw [if_neg hj2] at h2
        exact r.sep id j t u' o p' hid e' (Ne.symm hj2) hg h2 hown lv
    · rw [if_neg hi] at e h1
      by_cases hi2 : i = id
      · rw [if_pos hi2] at h1; cases h1; exact ow.elim
      · rw [if_neg hi2] at h1
        by_cases hj : j = H.n
        · rw [if_pos hj] at e' h2
          cases e'; cases h2
          exact r.sep i id u t p o e hid hi2 h1 hg ow (hl hown)
        · rw [if_neg hj] at e' h2
          by_cases hj2 : j = id
          · rw [if_pos hj2] at h2; cases h2; exact lv.elim
          · rw [if_neg hj2] at h2
            exact r.sep _ _ _ _ _ _ e e' hne h1 h2 ow lv
  · intro j u e
    simp only [Rho.add] at e
    split at e
    · subst_vars; exact .inr (Nat.le_refl _)
    · exact .inl e
  · intro j hj e
    rw [hget, if_neg (by omega), if_neg]
    rintro rfl
    rw [hid] at e; cases e

end
end Go.Jx
