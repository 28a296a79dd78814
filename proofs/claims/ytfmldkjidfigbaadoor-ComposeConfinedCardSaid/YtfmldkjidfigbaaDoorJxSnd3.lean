/-
  What the plain machine answers at an operation that looks at no memory, the model answers: operators, indexing, the rest; all together: 'pure_sim'.
-/
import Derived.Test.YtfmldkjidfigbaaDoorJxSnd2
namespace Go.Jx
open Go Go.RowKit
set_option linter.unusedSimpArgs false
set_option linter.unusedVariables false

section
variable {P : Program} {w0 w : World} {ρ : Rho} {H : Heap} {e : List AV} {a : Act}

theorem guard_plain (op : BinOp) (t : TypeId) (x y : Operand) (u v : Value) (h1 : ∀ l, u ≠ .agg l) (h2 : u ≠ .nilIface) : (eqGuard op t x y u v).run P w = .ok () w := by
  unfold eqGuard
  cases u <;> first | (exact absurd rfl (h1 _)) | (exact absurd rfl h2) | (cases op <;> cases v <;> rfl)

theorem int_sound (op : BinOp) (k : IntKind) (m n : Int) {v : AV} (hs : ¬ (op = .shl ∨ op = .shr)) (h : intA op k m n = some v) (t : TypeId) : ∃ u, (binOp op t (.int k m) (.int k n)).run P w = .ok u w ∧ AVR ρ v u := by
  cases op <;> simp [intA, cmpInt, bitsInt, shiftA] at h hs ⊢
  all_goals first
    | (subst h; exact ⟨_, by simp [binOp, Op.intArith, Op.intBits, Op.intCmp], rfl⟩)
    | (obtain ⟨h0, h1⟩ := h; subst h1; exact ⟨_, by simp [binOp, Op.intDiv, h0], rfl⟩)

theorem shift_sound (op : BinOp) (k j : IntKind) (m n : Int) {v : AV} (hs : op = .shl ∨ op = .shr) (h : shiftA op k m n = some v) (t : TypeId) : ∃ u, (binOp op t (.int k m) (.int j n)).run P w = .ok u w ∧ AVR ρ v u := by
  rcases hs with rfl | rfl
  all_goals
    unfold shiftA at h
    split at h
    · cases h
    · rename_i hn
      cases h
      refine ⟨_, ?_, rfl⟩
      simp only [binOp, Op.shift, hn, if_false, Sem.run_pure]

theorem str_sound (op : BinOp) (s r : List UInt8) {v : AV} (h : strA op s r = some v) (t : TypeId) : ∃ u, (binOp op t (.string ⟨s.toArray⟩) (.string ⟨r.toArray⟩)).run P w = .ok u w ∧ AVR ρ v u := by
  have e1 : (ByteArray.toList ⟨s.toArray⟩) = s := by rw [ByteArray.toList_eq]
  have e2 : (ByteArray.toList ⟨r.toArray⟩) = r := by rw [ByteArray.toList_eq]
  have z1 : (ByteArray.size ⟨s.toArray⟩) = s.length := by simp [ByteArray.size]
  have z2 : (ByteArray.size ⟨r.toArray⟩) = r.length := by simp [ByteArray.size]
  cases op <;> simp only [strA] at h
  case add =>
    split at h
    · cases h
    · rename_i hn
      cases h
      refine ⟨.string (⟨s.toArray⟩ ++ ⟨r.toArray⟩), ?_, ?_⟩
      · simp only [binOp, Op.stringOp, z1, z2, hn, if_false, Sem.run_pure]
      · show Value.string _ = Value.string _
        congr 1
  all_goals first | (simp at h; done) | (cases h; exact ⟨_, by simp only [binOp, Op.stringOp, e1, e2, Sem.run_pure], rfl⟩)

theorem eqq_inv {op : BinOp} {t : TypeId} {q : EqQ} (h : eqq? P op t = some q) :
    match q with
    | .no => True
    | .bool => P.underlying t = some .bool
    | .ptr => ∃ el n, P.underlying t = some (.pointer el) ∧ size? P el = some n ∧ n ≠ 0
    | .slice => ∃ el, P.underlying t = some (.slice el)
    | .func => ∃ p r b, P.underlying t = some (.func p r b)
    | .agg ks => isSt P t = true ∧ P.eqGuardType P.depth t = false ∧ lay P 20 t = some ks := by
  unfold eqq? at h
  split at h
  · split at h
    · rename_i hu; cases h; exact hu
    · rename_i el hu
      split at h
      · rename_i n hn
        split at h
        · cases h; trivial
        · rename_i h0; cases h; exact ⟨el, n, hu, hn, h0⟩
      · cases h; trivial
    · rename_i el hu; cases h; exact ⟨el, hu⟩
    · rename_i p r b hu; cases h; exact ⟨p, r, b, hu⟩
    · rename_i fs hu
      split at h
      · rename_i hg
        split at h
        · rename_i ks hl; cases h; exact ⟨by simp [isSt, hu], hg, hl⟩
        · cases h; trivial
      · cases h; trivial
    · rename_i n el hu
      split at h
      · rename_i hg
        split at h
        · rename_i ks hl; cases h; exact ⟨by simp [isSt, hu], hg, hl⟩
        · cases h; trivial
      · cases h; trivial
    · cases h; trivial
  · cases h; trivial

/-- Both equalities of two values, the guard ahead. -/
def EqSays (P : Program) (w : World) (t : TypeId) (u v : Value) (b : Bool) : Prop :=
  (∀ x y, (do eqGuard .eql t x y u v; binOp .eql t u v : Sem Value).run P w = .ok (.bool b) w) ∧ (∀ x y, (do eqGuard .neq t x y u v; binOp .neq t u v : Sem Value).run P w = .ok (.bool (!b)) w)

theorem eqSays_of {t : TypeId} {u v : Value} {b : Bool} (he : (Op.equal t u v).run P w = .ok b w) (hg : ∀ o x y, (eqGuard o t x y u v).run P w = .ok () w)
    (h1 : binOp .eql t u v = (do pure (.bool (← Op.equal t u v)))) (h2 : binOp .neq t u v = (do pure (.bool (!(← Op.equal t u v))))) : EqSays P w t u v b :=
  ⟨fun x y => by simp only [Sem.run_bind, hg, Result.andThen_ok, h1, he, Sem.run_pure], fun x y => by simp only [Sem.run_bind, hg, Result.andThen_ok, h2, he, Sem.run_pure]⟩

theorem equal_run {t : TypeId} {u v : Value} {b : Bool} (h : ∀ d, 20 ≤ d + 1 → (Op.equalIn (d + 1) t u v).run P w = .ok b w) : (Op.equal t u v).run P w = .ok b w := h 9999 (by omega)

theorem eq_sound {q : EqQ} {t : TypeId} {op0 : BinOp} (hq : eqq? P op0 t = some q) {x y : AV} {u v : Value} (hx : AVR ρ x u) (hy : AVR ρ y v) {b : Bool} (h : eqA q x y = some b) : EqSays P w t u v b := by
  have inv := eqq_inv hq
  unfold eqA at h
  split at h
  · cases h
    have hu : P.underlying t = some .bool := inv
    cases hx; cases hy
    exact eqSays_of (equal_run (fun d _ => by simp only [Op.equalIn, Sem.run_bind, run_underlying hu, Result.andThen_ok, Sem.run_pure])) (fun o x y => guard_plain o t x y _ _ (by simp) (by simp)) rfl rfl
  · cases h
    obtain ⟨el, n, hu, hn, h0⟩ := inv
    cases hx; cases hy
    exact eqSays_of (equal_run (fun d _ => by simp only [Op.equalIn, Sem.run_bind, run_underlying hu, Result.andThen_ok, Sem.run_pure]; rfl)) (fun o x y => guard_plain o t x y _ _ (by simp) (by simp)) rfl rfl
  · cases h
    obtain ⟨el, n, hu, hn, h0⟩ := inv
    cases hx; obtain ⟨tg, ht, rfl⟩ := hy
    exact eqSays_of (equal_run (fun d _ => by simp only [Op.equalIn, Sem.run_bind, run_underlying hu, Result.andThen_ok, Sem.run_pure]; rfl)) (fun o x y => guard_plain o t x y _ _ (by simp) (by simp)) rfl rfl
  · cases h
    obtain ⟨el, n, hu, hn, h0⟩ := inv
    cases hy; obtain ⟨tg, ht, rfl⟩ := hx
    exact eqSays_of (equal_run (fun d _ => by simp only [Op.equalIn, Sem.run_bind, run_underlying hu, Result.andThen_ok, Sem.run_pure])) (fun o x y => guard_plain o t x y _ _ (by simp) (by simp)) rfl rfl
  · rename_i i o j p
    split at h
    · rename_i hij; subst hij; cases h
      obtain ⟨el, n, hu, hn, h0⟩ := inv
      obtain ⟨t1, ht1, rfl⟩ := hx
      obtain ⟨t2, ht2, rfl⟩ := hy
      rw [ht1] at ht2; cases ht2
      refine eqSays_of (equal_run fun d _ => ?_) (fun o x y => guard_plain o t x y _ _ (by simp) (by simp)) rfl rfl
      simp only [Op.equalIn, Sem.run_bind, run_underlying hu, Result.andThen_ok, run_sizeOf hn, ne_eq, h0, not_false_eq_true, if_true, sameAddr, Tgt.addr, beq_self_eq_true, Sem.run_pure]
      congr 1
      by_cases hop : o = p
      · subst hop; rw [beq_self_eq_true, beq_self_eq_true]
      · rw [beq_eq_false_iff_ne.2 hop, beq_eq_false_iff_ne.2]
        intro hh
        exact hop (Nat.add_left_cancel (congrArg Addr.off hh))
    · cases h
  · cases h
    obtain ⟨el, hu⟩ := inv
    cases hx; cases hy
    exact eqSays_of (equal_run (fun d _ => by simp only [Op.equalIn, Sem.run_bind, run_underlying hu, Result.andThen_ok, Sem.run_pure]; rfl)) (fun o x y => guard_plain o t x y _ _ (by simp) (by simp)) rfl rfl
  · cases h
    obtain ⟨el, hu⟩ := inv
    cases hx; obtain ⟨tg, ht, rfl⟩ := hy
    exact eqSays_of (equal_run (fun d _ => by simp only [Op.equalIn, Sem.run_bind, run_underlying hu, Result.andThen_ok, Sem.run_pure]; rfl)) (fun o x y => guard_plain o t x y _ _ (by simp) (by simp)) rfl rfl
  · cases h
    obtain ⟨el, hu⟩ := inv
    cases hx; obtain ⟨tg, c, rfl, _⟩ := hy
    exact eqSays_of (equal_run (fun d _ => by simp only [Op.equalIn, Sem.run_bind, run_underlying hu, Result.andThen_ok, Sem.run_pure]; rfl)) (fun o x y => guard_plain o t x y _ _ (by simp) (by simp)) rfl rfl
  · cases h
    obtain ⟨el, hu⟩ := inv
    cases hy; obtain ⟨tg, ht, rfl⟩ := hx
    exact eqSays_of (equal_run (fun d _ => by simp only [Op.equalIn, Sem.run_bind, run_underlying hu, Result.andThen_ok, Sem.run_pure])) (fun o x y => guard_plain o t x y _ _ (by simp) (by simp)) rfl rfl
  · cases h
    obtain ⟨el, hu⟩ := inv
    cases hy; obtain ⟨tg, c, rfl, _⟩ := hx
    exact eqSays_of (equal_run (fun d _ => by simp only [Op.equalIn, Sem.run_bind, run_underlying hu, Result.andThen_ok, Sem.run_pure])) (fun o x y => guard_plain o t x y _ _ (by simp) (by simp)) rfl rfl
  · cases h
    obtain ⟨p, r, b, hu⟩ := inv
    cases hx; cases hy
    exact eqSays_of (equal_run (fun d _ => by simp only [Op.equalIn, Sem.run_bind, run_underlying hu, Result.andThen_ok, Sem.run_pure])) (fun o x y => guard_plain o t x y _ _ (by simp) (by simp)) rfl rfl
  · cases h
    obtain ⟨p, r, b, hu⟩ := inv
    cases hy; obtain ⟨l, rfl, _⟩ := hx
    exact eqSays_of (equal_run (fun d _ => by simp only [Op.equalIn, Sem.run_bind, run_underlying hu, Result.andThen_ok, Sem.run_pure])) (fun o x y => guard_plain o t x y _ _ (by simp) (by simp)) rfl rfl
  · cases h
    obtain ⟨p, r, b, hu⟩ := inv
    cases hx; obtain ⟨l, rfl, _⟩ := hy
    exact eqSays_of (equal_run (fun d _ => by simp only [Op.equalIn, Sem.run_bind, run_underlying hu, Result.andThen_ok, Sem.run_pure])) (fun o x y => guard_plain o t x y _ _ (by simp) (by simp)) rfl rfl
  · rename_i ks xs ys
    split at h
    · rename_i hf; cases h
      obtain ⟨hu, hg, hl⟩ := inv
      obtain ⟨X, rfl, rx⟩ := hx
      obtain ⟨Y, rfl, ry⟩ := hy
      have hp : ∀ Z, packT P t Z = .agg Z.toArray := fun Z => by simp only [packT, hu, if_true]
      exact eqSays_of (equal_run fun d hd => by
        have := equalIn_lay (P := P) (ρ := ρ) (w := w) 20 t ks (d + 1) xs ys X Y hl hd hf.1 hf.2 rx ry
        rw [hp, hp] at this
        exact this) (fun o x y => run_eqGuard_agg w o t x y _ _ hg) rfl rfl
    · cases h
  · cases h

theorem bin_sound (cx : Cx P w0 ρ H w e a) {op : BinOp} {t : TypeId} {x y : Operand} {q : EqQ} {r s : Rnd} {v : AV} (hq : eqq? P op t = some q) (hx : rnd? P x = some r) (hy : rnd? P y = some s) (h : binA op q (rd e r) (rd e s) = some v) :
    ∃ u, (do eqGuard op t x y (a.eval x) (a.eval y); binOp op t (a.eval x) (a.eval y) : Sem Value).run P w = .ok u w ∧ AVR ρ v u := by
  have ax := rnd_sound cx hx
  have ay := rnd_sound cx hy
  revert h ax ay
  generalize rd e r = X
  generalize rd e s = Y
  generalize a.eval x = u
  generalize a.eval y = z
  intro h ax ay
  unfold binA at h
  split at h
  · rename_i k m j n
    cases ax; cases ay
    simp only [Sem.run_bind, guard_plain op t x y (.int k m) (.int j n) (by simp) (by simp), Result.andThen_ok]
    split at h
    · rename_i hs; exact shift_sound op k j m n hs h t
    · rename_i hs
      split at h
      · rename_i hk; subst hk; exact int_sound op k m n hs h t
      · cases h
  · rename_i m n
    cases ax; cases ay
    simp only [Sem.run_bind, guard_plain op t x y (.string _) (.string _) (by simp) (by simp), Result.andThen_ok]
    exact str_sound op m n h t
  · split at h
    · cases hb : eqA q X Y with
      | none => simp [hb] at h
      | some b =>
        simp [hb] at h; subst h
        exact ⟨_, (eq_sound (w := w) hq ax ay hb).1 x y, rfl⟩
    · cases hb : eqA q X Y with
      | none => simp [hb] at h
      | some b =>
        simp [hb] at h; subst h
        exact ⟨_, (eq_sound (w := w) hq ax ay hb).2 x y, rfl⟩
    · cases h

theorem un_sound {op : UnOp} {x : AV} {u : Value} {v : AV} (hx : AVR ρ x u) (h : unA op x = some v) : ∃ r, (Op.unary op u).run P w = .ok r w ∧ AVR ρ v r := by
  unfold unA at h
  split at h
  · cases hx
    simp only [intA, Option.some.injEq] at h; subst h
    exact ⟨_, rfl, rfl⟩
  · cases hx
    simp only [intA, bitsInt, Option.map_some, Option.some.injEq] at h; subst h
    exact ⟨_, rfl, rfl⟩
  · cases hx; cases h; exact ⟨_, rfl, rfl⟩
  · cases h

theorem bytes_take_drop (s : List UInt8) (l h : Nat) : (ByteArray.extract ⟨s.toArray⟩ l h) = ⟨((s.take h).drop l).toArray⟩ := by
  apply ByteArray.ext
  simp [ByteArray.data_extract, List.drop_take]

theorem nat_sound {x : AV} {u : Value} {n : Nat} (hx : AVR ρ x u) (h : natA x = some n) : ∃ k i, u = .int k i ∧ 0 ≤ i ∧ i.toNat = n := by
  unfold natA at h
  split at h
  · rename_i k i
    split at h
    · rename_i hi
      cases h; cases hx
      exact ⟨k, i, rfl, hi, rfl⟩
    · cases h
  · cases h

theorem bounds_sound {b : Bool} {len cap cap' : Nat} {lo hi : Option Rnd} {lo' hi' : Option Operand} {l g : Nat} (cx : Cx P w0 ρ H w e a) (hl : rndOpt? P lo' = some lo) (hh : rndOpt? P hi' = some hi)
    (h : boundsA len cap (lo.map (rd e)) (hi.map (rd e)) = some (l, g)) (hc : cap ≤ cap') :
    (Instr.sliceBounds b len cap' (lo'.map a.eval) (hi'.map a.eval) none).run P w = .ok (l, g, cap') w ∧ l ≤ g ∧ g ≤ cap := by
  unfold boundsA at h
  split at h
  · cases h
  · rename_i g' hg
    split at h
    · cases h
    · rename_i l' hl'
      split at h
      · rename_i hb; cases h
        have hH : (match hi'.map a.eval with | some v => Instr.sliceBound v cap' (if b then .sliceAcap else .sliceAlen) | none => pure len : Sem Nat).run P w = .ok g w := by
          cases hi' with
          | none => cases hh; simp at hg; subst hg; rfl
          | some x =>
            simp only [rndOpt?, Option.map_eq_some_iff] at hh
            obtain ⟨r, hr, rfl⟩ := hh
            simp only [Option.map_some] at hg
            obtain ⟨k, i, e1, e2, e3⟩ := nat_sound (rnd_sound cx hr) hg
            simp only [Option.map_some, e1, Instr.sliceBound, asIntOf, Sem.run_bind, Sem.run_pure, Result.andThen_ok]
            rw [if_pos ⟨e2, by omega⟩, Sem.run_pure, e3]
        have hL : (match lo'.map a.eval with | some v => Instr.sliceBound v g .sliceB | none => pure 0 : Sem Nat).run P w = .ok l w := by
          cases lo' with
          | none => cases hl; simp at hl'; subst hl'; rfl
          | some x =>
            simp only [rndOpt?, Option.map_eq_some_iff] at hl
            obtain ⟨r, hr, rfl⟩ := hl
            simp only [Option.map_some] at hl'
            obtain ⟨k, i, e1, e2, e3⟩ := nat_sound (rnd_sound cx hr) hl'
            simp only [Option.map_some, e1, Instr.sliceBound, asIntOf, Sem.run_bind, Sem.run_pure, Result.andThen_ok]
            rw [if_pos ⟨e2, by omega⟩, Sem.run_pure, e3]
        refine ⟨?_, hb.2, hb.1⟩
        unfold Instr.sliceBounds
        cases hi' with
        | none =>
          cases lo' with
          | none => simp only [Option.map_none, Sem.run_bind, Sem.run_pure, Result.andThen_ok] at hH hL ⊢; cases hH; cases hL; rfl
          | some y => simp only [Option.map_none, Option.map_some, Sem.run_bind, Sem.run_pure, Result.andThen_ok, Option.isSome_none, Bool.false_eq_true, if_false] at hH hL ⊢; cases hH; rw [hL]; rfl
        | some x =>
          cases lo' with
          | none => simp only [Option.map_none, Option.map_some, Sem.run_bind, Sem.run_pure, Result.andThen_ok] at hH hL ⊢; rw [hH]; cases hL; rfl
          | some y => simp only [Option.map_none, Option.map_some, Sem.run_bind, Sem.run_pure, Result.andThen_ok, Option.isSome_none, Bool.false_eq_true, if_false] at hH hL ⊢; rw [hH]; simp only [Result.andThen_ok]; rw [hL]; rfl
      · cases h

theorem idx_sound {len : Nat} {x : AV} {u : Value} {n : Nat} (hx : AVR ρ x u) (h : idxA len x = some n) : ∃ k i, u = .int k i ∧ 0 ≤ i ∧ i < (len : Int) ∧ i.toNat = n := by
  unfold idxA at h
  split at h
  · rename_i k i
    split at h
    · rename_i hi
      cases h; cases hx
      exact ⟨k, i, rfl, hi.1, hi.2, rfl⟩
    · cases h
  · cases h

theorem addr_add (t : Tgt) (o n : Nat) : (t.addr o).add n = t.addr (o + n) := by
  unfold Addr.add Tgt.addr
  split
  · subst_vars; rfl
  · simp [Nat.add_assoc]

end
end Go.Jx
