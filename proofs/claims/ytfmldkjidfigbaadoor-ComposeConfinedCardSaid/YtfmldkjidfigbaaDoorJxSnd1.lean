/-
  What the plain machine answers at an operation that looks at no memory, the model answers.
-/
import Derived.Test.YtfmldkjidfigbaaDoorJxRel
namespace Go.Jx
open Go Go.RowKit
set_option linter.unusedSimpArgs false
set_option linter.unusedVariables false

theorem toSV_sound {ρ : Rho} {v : Value} {s : SV} (h : toSV? v = some s) : SVR ρ s v := by
  unfold toSV? at h
  split at h <;> cases h <;> simp [SVR]

theorem toSVs_sound {ρ : Rho} : ∀ {l : List Value} {m : List SV}, toSVs? l = some m → LR (SVR ρ) m l
  | [], m, h => by simp [toSVs?] at h; subst h; trivial
  | v :: r, m, h => by
    unfold toSVs? at h
    split at h
    · rename_i s l hs hl
      cases h
      exact ⟨toSV_sound hs, toSVs_sound hl⟩
    · cases h

theorem toAV_sound {ρ : Rho} {v : Value} {x : AV} (h : toAV? v = some x) : AVR ρ x v := by
  unfold toAV? at h
  split at h
  · rename_i cs
    cases hc : toSVs? cs.toList with
    | none => simp [hc] at h
    | some l => simp [hc] at h; subst h; exact ⟨cs.toList, by simp, toSVs_sound hc⟩
  · cases hc : toSV? v with
    | none => simp [hc] at h
    | some l => simp [hc] at h; subst h; exact toSV_sound hc

/-- A state of the plain machine and one of the model. -/
structure Cx (P : Program) (w0 : World) (ρ : Rho) (H : Heap) (w : World) (e : List AV) (a : Act) : Prop where
  rel : Rel P w0 ρ H w
  er : ER ρ e a.tmps
  glob : ∀ g, g < P.globals.size → ρ g = some ⟨g, 0, 0⟩
  nodefer : a.defers = []

section
variable {P : Program} {w0 w : World} {ρ : Rho} {H : Heap} {e : List AV} {a : Act}

theorem rnd_sound (cx : Cx P w0 ρ H w e a) {x : Operand} {r : Rnd} (h : rnd? P x = some r) : AVR ρ (rd e r) (a.eval x) := by
  cases x with
  | tmp i =>
    simp only [rnd?, Option.some.injEq] at h; subst h
    have := cx.er.getD (AVR.undef ρ) i
    simpa [rd, Act.eval, Array.getD_eq_getD_getElem?, List.getD] using this
  | const v =>
    simp only [rnd?, Option.map_eq_some_iff] at h
    obtain ⟨x, h1, rfl⟩ := h
    exact toAV_sound h1
  | global g =>
    simp only [rnd?] at h
    split at h
    · rename_i hg
      cases h
      exact ⟨_, cx.glob g hg, rfl⟩
    · cases h
  | func f =>
    simp only [rnd?, Option.some.injEq] at h; subst h
    exact ⟨[], rfl, trivial⟩

theorem rnds_sound (cx : Cx P w0 ρ H w e a) : ∀ {l : List Operand} {m : List Rnd}, rnds? P l = some m → LR (AVR ρ) (m.map (rd e)) (l.map a.eval)
  | [], m, h => by simp [rnds?] at h; subst h; trivial
  | x :: r, m, h => by
    unfold rnds? at h
    split at h
    · rename_i s l hs hl
      cases h
      exact ⟨rnd_sound cx hs, rnds_sound cx hl⟩
    · cases h

theorem run_underlying {t : TypeId} {d : TypeDesc} (h : P.underlying t = some d) : (underlying t).run P w = .ok d w := by simp [underlying, h]
theorem run_sizeOf {t : TypeId} {n : Nat} (h : size? P t = some n) : (sizeOf t).run P w = .ok n w := by
  unfold size? at h
  cases hi : P.info? t with
  | none => simp [hi] at h
  | some i => simp [hi] at h; simp [sizeOf, typeInfo, hi, h]
theorem run_bytes {t : TypeId} {n : Nat} (h : bytes? P t = some n) : ∃ i, (typeInfo t).run P w = .ok i w ∧ i.bytes = n := by
  unfold bytes? at h
  cases hi : P.info? t with
  | none => simp [hi] at h
  | some i => simp [hi] at h; exact ⟨i, by simp [typeInfo, hi], h⟩
theorem cellsOf_of {t : TypeId} {n : Nat} (h : size? P t = some n) : P.cellsOf t = n := by
  unfold size? at h; unfold Program.cellsOf; rw [h]; rfl
theorem run_zero {t : TypeId} {z : List SV} (h : zero? P t = some z) : ∃ v, (zeroValue t).run P w = .ok v w ∧ ∀ ρ, LR (SVR ρ) z v.cells.toList := by
  unfold zero? at h
  split at h
  · rename_i i hi
    split at h
    · rename_i v hv
      exact ⟨v, by simp [zeroValue, typeInfo, hi, hv], fun ρ => toSVs_sound h⟩
    · cases h
  · cases h
theorem run_isAgg {t : TypeId} {g : Option Nat} (h : agg? P t = some g) : (isAgg t).run P w = .ok g.isSome w ∧ (∀ n, g = some n → size? P t = some n) := by
  unfold agg? at h
  split at h
  · rename_i fs hu
    cases hs : size? P t with
    | none => simp [hs] at h
    | some n => simp [hs] at h; subst h; exact ⟨by simp [isAgg, underlying, hu], fun m hm => by cases hm; rfl⟩
  · rename_i n0 e0 hu
    cases hs : size? P t with
    | none => simp [hs] at h
    | some n => simp [hs] at h; subst h; exact ⟨by simp [isAgg, underlying, hu], fun m hm => by cases hm; rfl⟩
  · rename_i d n1 n2 hu
    cases h
    refine ⟨?_, fun m hm => by cases hm⟩
    simp only [isAgg, underlying, Sem.run_bind, run_program, Result.andThen_ok, hu, Sem.run_pure]
    cases d <;> first | rfl | (exact absurd rfl (by first | exact n1 _ | exact n2 _ _))
  · cases h

/-! ### structs and arrays -/

theorem foldl_put : ∀ (vs : List Value) (k off : Nat) (cells : Array Value), off + k + vs.length ≤ cells.size →
    ((vs.zipIdx k).foldl (fun cs (x : Value × Nat) => cs.setIfInBounds (off + x.2) x.1) cells).toList = cells.toList.take (off + k) ++ vs ++ cells.toList.drop (off + k + vs.length)
  | [], k, off, cells, _ => by simp
  | v :: r, k, off, cells, h => by
    simp only [List.length_cons] at h
    have ih := foldl_put r (k + 1) off (cells.setIfInBounds (off + k) v) (by simp; omega)
    simp only [List.zipIdx_cons, List.foldl_cons]
    rw [ih]
    have hl : off + k < cells.toList.length := by simp; omega
    simp only [Array.toList_setIfInBounds, List.length_cons]
    apply List.ext_getElem?
    intro j
    have e1 : (off + (k + 1)) = off + k + 1 := by omega
    rw [e1]
    have hlt1 : ((cells.toList.set (off + k) v).take (off + k + 1)).length = off + k + 1 := by simp; simp at hl; omega
    have hlt2 : (cells.toList.take (off + k)).length = off + k := by simp; simp at hl; omega
    rw [List.append_assoc, List.append_assoc, List.getElem?_append (l₁ := (cells.toList.set (off + k) v).take (off + k + 1)), List.getElem?_append (l₁ := cells.toList.take (off + k)), hlt1, hlt2]
    by_cases h1 : j < off + k
    · rw [if_pos (by omega), if_pos h1]
      simp only [List.getElem?_take, List.getElem?_set]
      rw [if_pos (by omega), if_pos h1, if_neg (by omega)]
    · by_cases h2 : j = off + k
      · subst h2
        rw [if_pos (by omega), if_neg (by omega)]
        simp only [List.getElem?_take, List.getElem?_set]
        rw [if_pos (by omega), if_pos trivial, if_pos hl]
        simp
      · rw [if_neg (by omega), if_neg h1]
        rw [List.getElem?_append, List.getElem?_append]
        have e2 : j - (off + k) = (j - (off + k + 1)) + 1 := by omega
        simp only [List.length_cons, e2, List.getElem?_cons_succ]
        by_cases h3 : j - (off + k + 1) < r.length
        · rw [if_pos h3, if_pos (by omega)]
        · rw [if_neg h3, if_neg (by omega)]
          simp only [List.getElem?_drop, List.getElem?_set]
          rw [if_neg (by omega)]
          congr 1
          omega

theorem writeN_sound {cs : List SV} {off : Nat} {vs cs' : List SV} {cells : List Value} {us : List Value} (h : writeN cs off vs = some cs') (hc : LR (SVR ρ) cs cells) (hu : LR (SVR ρ) vs us) :
    LR (SVR ρ) cs' (cells.take off ++ us ++ cells.drop (off + us.length)) ∧ off + us.length ≤ cells.length ∧ cs'.length = cs.length := by
  unfold writeN at h
  split at h
  · rename_i hle
    cases h
    refine ⟨((hc.take off).append hu).append (by rw [← hu.length]; exact hc.drop _), by rw [← hu.length, ← hc.length]; exact hle, ?_⟩
    simp; omega
  · cases h

theorem fill_sound (place : Nat → Option (Nat × Nat)) (cx : Cx P w0 ρ H w e a) : ∀ (ps : List (Nat × Operand)) (l : List (Nat × Nat × Rnd)) (cs : List SV) (cells : Array Value) (cs' : List SV),
    partsAt? P place ps = some l → LR (SVR ρ) cs cells.toList → fillA cs (l.map fun p => (p.1, p.2.1, rd e p.2.2)) = some cs' →
    ∃ cells', Instr.fill place cells (ps.map fun p => (p.1, a.eval p.2)) = some cells' ∧ LR (SVR ρ) cs' cells'.toList
  | [], l, cs, cells, cs', h, hc, hf => by
    simp only [partsAt?, Option.some.injEq] at h; subst h
    simp only [List.map_nil, fillA, Option.some.injEq] at hf; subst hf
    exact ⟨cells, rfl, hc⟩
  | (i, x) :: r, l, cs, cells, cs', h, hc, hf => by
    unfold partsAt? at h
    split at h
    · rename_i off size b m hp hx hr
      cases h
      simp only [List.map_cons, fillA] at hf
      split at hf
      · cases hf
      · rename_i vs hvs
        split at hf
        · rename_i hsz
          split at hf
          · rename_i c hw
            obtain ⟨h1, h2⟩ := cells_AVR hvs (rnd_sound cx hx)
            obtain ⟨w1, w2, w3⟩ := writeN_sound hw hc h1
            have hlen : (a.eval x).cells.size = size := by rw [h2, hsz]
            have hfit : off + (a.eval x).cells.size ≤ cells.size := by simpa using w2
            have key := foldl_put (a.eval x).cells.toList 0 off cells (by simpa using hfit)
            obtain ⟨cells', f1, f2⟩ := fill_sound place cx r m c ((a.eval x).cells.zipIdx.foldl (fun cs (x : Value × Nat) => cs.setIfInBounds (off + x.2) x.1) cells) cs' hr
              (by rw [← Array.foldl_toList, Array.toList_zipIdx, key]; simpa using w1) hf
            refine ⟨cells', ?_, f2⟩
            simp only [List.map_cons, Instr.fill, hp]
            rw [if_neg (by simp [hlen]; omega)]
            exact f1
          · cases hf
        · cases hf
    · cases h

theorem run_fieldSizes (fs : List Field) (h : fs.all (fun (f : Field) => (size? P f.type).isSome) = true) :
    (fs.mapM (m := Sem) (fun (f : Field) => do pure (f.offset, ← sizeOf f.type))).run P w = .ok (fs.map fun (f : Field) => (f.offset, P.cellsOf f.type)) w := by
  induction fs with
  | nil => rfl
  | cons f r ih =>
    simp only [List.all_cons, Bool.and_eq_true] at h
    obtain ⟨n, hn⟩ := Option.isSome_iff_exists.1 h.1
    have ih' := ih h.2
    simp only [List.mapM_cons, Sem.run_bind, run_sizeOf hn, Result.andThen_ok, Sem.run_pure, List.map_cons, cellsOf_of hn]
    simp only [bind_pure_comp, Sem.run_map, run_sizeOf hn, Result.andThen_ok] at ih' ⊢
    rw [ih']; rfl

theorem build_struct (cx : Cx P w0 ρ H w e a) {t : TypeId} {fs : Array Field} {z : List SV} {ps : Array (Nat × Operand)} {l : List (Nat × Nat × Rnd)} {cs : List SV}
    (hz : zero? P t = some z) (hu : P.underlying t = some (.struct fs)) (hp : partsAt? P (placeS P fs) ps.toList = some l)
    (hs : (fs.toList.all fun (f : Field) => (size? P f.type).isSome) = true) (hf : fillA z (l.map fun p => (p.1, p.2.1, rd e p.2.2)) = some cs) :
    ∃ u, (Instr.build t (ps.map fun p => (p.1, a.eval p.2))).run P w = .ok u w ∧ AVR ρ (.agg cs) u := by
  obtain ⟨v, hv, hzv⟩ := run_zero (w := w) hz
  obtain ⟨cells', f1, f2⟩ := fill_sound _ cx ps.toList l z v.cells cs hp (hzv ρ) hf
  have hplace : (fun i => ((fs.toList.map fun (f : Field) => (f.offset, P.cellsOf f.type)).toArray[i]? : Option (Nat × Nat))) = placeS P fs := by
    funext i
    simp only [placeS, List.getElem?_toArray, List.getElem?_map, Array.getElem?_toList]
    cases hfi : fs[i]? with
    | none => rfl
    | some f =>
      have hmem : f ∈ fs.toList := by
        have := Array.getElem?_eq_some_iff.1 hfi
        obtain ⟨h1, h2⟩ := this
        rw [← h2]; simp
      have := List.all_eq_true.1 hs f hmem
      obtain ⟨n, hn⟩ := Option.isSome_iff_exists.1 this
      simp [hn, cellsOf_of hn]
  have hm : (fs.mapM (m := Sem) (fun (f : Field) => do pure (f.offset, ← sizeOf f.type))).run P w = .ok (fs.toList.map fun (f : Field) => (f.offset, P.cellsOf f.type)).toArray w := by
    have : fs = fs.toList.toArray := by simp
    rw [this, List.mapM_toArray]
    have h2 := run_fieldSizes (P := P) (w := w) fs.toList hs
    simp only [bind_pure_comp, Sem.run_map] at h2 ⊢
    rw [h2]; simp
  refine ⟨.agg cells', ?_, ⟨cells'.toList, by simp, f2⟩⟩
  simp only [Instr.build, Sem.run_bind, hv, Result.andThen_ok, run_underlying hu]
  rw [hm]
  simp only [Result.andThen_ok]
  rw [hplace, Array.toList_map, f1]
  rfl

theorem build_array (cx : Cx P w0 ρ H w e a) {t : TypeId} {len : Nat} {el : TypeId} {n : Nat} {z : List SV} {ps : Array (Nat × Operand)} {l : List (Nat × Nat × Rnd)} {cs : List SV}
    (hz : zero? P t = some z) (hu : P.underlying t = some (.array len el)) (hn : size? P el = some n) (hp : partsAt? P (fun i => some (i * n, n)) ps.toList = some l)
    (hf : fillA z (l.map fun p => (p.1, p.2.1, rd e p.2.2)) = some cs) :
    ∃ u, (Instr.build t (ps.map fun p => (p.1, a.eval p.2))).run P w = .ok u w ∧ AVR ρ (.agg cs) u := by
  obtain ⟨v, hv, hzv⟩ := run_zero (w := w) hz
  obtain ⟨cells', f1, f2⟩ := fill_sound _ cx ps.toList l z v.cells cs hp (hzv ρ) hf
  refine ⟨.agg cells', ?_, ⟨cells'.toList, by simp, f2⟩⟩
  simp only [Instr.build, Sem.run_bind, hv, Result.andThen_ok, run_underlying hu, run_sizeOf hn]
  rw [Array.toList_map, f1]
  rfl

end
end Go.Jx
