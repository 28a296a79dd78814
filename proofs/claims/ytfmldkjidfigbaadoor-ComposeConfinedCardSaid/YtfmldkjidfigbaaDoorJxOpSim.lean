/-
  'op_sim': whatever the plain machine answers at an operation (but for calls), the model answers.
-/
import Derived.Test.YtfmldkjidfigbaaDoorJxMem6
namespace Go.Jx
open Go Go.RowKit
set_option linter.unusedSimpArgs false
set_option linter.unusedVariables false

section
variable {P : Program} {w0 w : World} {ρ : Rho} {H : Heap} {e : List AV} {a : Act} {X : Exts}

theorem Does.pure {o : Oper} {v : AV} (hr : Rel P w0 ρ H w) (h : ∃ u, (execOp a.eval o).run P w = .ok (.value u) w ∧ AVR ρ v u) : Does P w0 ρ H w (execOp a.eval o) v H :=
  let ⟨u, h1, h2⟩ := h
  ⟨ρ, w, u, .inl h1, h2, hr, Ext.refl _ _⟩

/-- The operations that look at memory. -/
def memOp : MOp → Bool
  | .alloc _ _ | .box _ _ | .buildSlice _ _ _ _ _ | .load _ _ | .store _ _ _ | .conv _ _ | .makeSlice _ _ _ _ _ _ | .sliceArr _ _ _ _ _ | .range _ | .next _
  | .append _ _ _ _ _ _ | .copy _ _ _ | .clear _ _ | .usliceData _ | .ustring _ _ _ => true
  | _ => false

theorem opA_pure {m : MOp} (h : memOp m = false) {v : AV} {H' : Heap} (ho : opA m e H = some (v, H')) : pureA m e = some v ∧ H' = H := by
  cases m <;> simp [memOp] at h <;> simp only [opA, Option.map_eq_some_iff, Prod.mk.injEq] at ho <;> (obtain ⟨u, hu, rfl, rfl⟩ := ho; exact ⟨hu, rfl⟩)

theorem call_mem_sim (cx : Cx P w0 ρ H w e a) {o : Oper} {c : Call} {m : MOp} {v : AV} {H' : Heap} (hm : memOp m = true) (hc : cCall P X c = some m) (h : opA m e H = some (v, H')) :
    Does P w0 ρ H w (do let d ← resolve a.eval c o.type; invoke d.target d.args : Sem Next) v H' := by
  unfold cCall at hc
  split at hc
  · split at hc
    · cases hc
    · split at hc
      · cases hc; simp [memOp] at hm
      · split at hc
        · cases hc; simp [memOp] at hm
        · cases hc
      · split at hc
        · cases hc; simp [memOp] at hm
        · cases hc
      · cases hc
  · simp only [Option.map_eq_some_iff] at hc
    obtain ⟨as, has, rfl⟩ := hc
    simp [memOp] at hm
  · rename_i b hcal
    have hres : ∀ w, (do let d ← resolve a.eval c o.type; invoke d.target d.args : Sem Next).run P w = (builtin b c.argTypes o.type (c.args.map fun | .const _ => true | _ => false) (c.args.toList.map a.eval).toArray).run P w := by
      intro w
      simp only [resolve, hcal, Sem.run_bind, Sem.run_pure, Result.andThen_ok, invoke]
      congr 2
      simp [← Array.toList_map]
    have fin : Does P w0 ρ H w (builtin b c.argTypes o.type (c.args.map fun | .const _ => true | _ => false) (c.args.toList.map a.eval).toArray) v H' → Does P w0 ρ H w (do let d ← resolve a.eval c o.type; invoke d.target d.args : Sem Next) v H' := by
      rintro ⟨ρ', w', u, h1, h2⟩
      exact ⟨ρ', w', u, by rw [hres]; exact h1, h2⟩
    apply fin
    clear fin hres
    generalize (c.args.map fun | .const _ => true | _ => false) = cts
    split at hc
    · rename_i s x st has hst
      have hargs := rnds_sound cx has
      generalize c.args.toList.map a.eval = l at hargs
      match l, hargs with
      | [us, ux], hargs =>
        split at hc
        · rename_i el hu
          have done : ∀ (n b : Nat) (z : List SV) (d : TypeDesc), size? P el = some n → bytes? P el = some b → zero? P el = some z → (c.argTypes[1]?).bind P.underlying = some d → (∀ k, d ≠ .int k) → z.length = n → m = .append el n b z s x →
              Does P w0 ρ H w (builtin .append c.argTypes o.type cts [us, ux].toArray) v H' := by
            intro n b z d h1 h2 h3 h4 h5 h6 h7
            subst h7
            simp only [opA] at h
            rw [Option.bind_eq_some_iff] at h4
            obtain ⟨xt, hxt, hxu⟩ := h4
            exact (append_sound cx.rel ⟨hst, hu, h1, h2, h3, h6, xt, d, hxt, hxu, h5⟩ hargs.1 hargs.2.1 h).does
          split at hc
          · rename_i n b z d h1 h2 h3 h4
            split at hc
            · rename_i h6; cases hc; exact done _ _ _ _ h1 h2 h3 h4 (by simp) h6 rfl
            · cases hc
          · rename_i n b z h1 h2 h3 h4
            split at hc
            · rename_i h6; cases hc; exact done _ _ _ _ h1 h2 h3 h4 (by simp) h6 rfl
            · cases hc
          · cases hc
        · cases hc
    · rename_i d s dt has hdt
      have hargs := rnds_sound cx has
      generalize c.args.toList.map a.eval = l at hargs
      match l, hargs with
      | [ud, us], hargs =>
        split at hc
        · rename_i el hu
          simp only [Option.map_eq_some_iff] at hc
          obtain ⟨n, hn, rfl⟩ := hc
          simp only [opA] at h
          exact (copy_sound cx.rel hdt hu hn hargs.1 hargs.2.1 h).does
        · cases hc
    · rename_i x dt has hdt
      have hargs := rnds_sound cx has
      generalize c.args.toList.map a.eval = l at hargs
      match l, hargs with
      | [ux], hargs =>
        split at hc
        · rename_i el hu
          simp only [Option.map_eq_some_iff] at hc
          obtain ⟨z, hz, rfl⟩ := hc
          simp only [opA, Option.map_eq_some_iff, Prod.mk.injEq] at h
          obtain ⟨H1, h1, rfl, rfl⟩ := h
          exact (clear_sound cx.rel hdt hu hz hargs.1 h1).does
        · cases hc
    · split at hc <;> cases hc <;> simp [memOp] at hm
    · cases hc; simp [memOp] at hm
    · cases hc; simp [memOp] at hm
    · rename_i x has
      cases hc
      have hargs := rnds_sound cx has
      generalize c.args.toList.map a.eval = l at hargs
      match l, hargs with
      | [ux], hargs =>
        simp only [opA] at h
        split at h
        · rename_i hx
          cases h
          have h1 := hargs.1
          rw [hx] at h1
          have h1 : ux = .slice none 0 0 := h1
          subst h1
          exact Does.same (u := .pointer none) cx.rel rfl rfl
        · rename_i id off len cap hx
          have h1 := hargs.1
          rw [hx] at h1
          obtain ⟨tg, htg, h1⟩ := h1
          subst h1
          split at h
          · cases h
          · rename_i hcap
            cases h
            refine Does.same (u := .pointer (some (tg.addr off))) cx.rel ?_ ⟨tg, htg, rfl⟩
            show (Builtin.unsafeSliceData_ _ _ #[_]).run P w = _
            unfold Builtin.unsafeSliceData_
            show (if cap + tg.extra ≠ 0 then pure (Value.pointer (some (tg.addr off))) else _ : Sem Value).run P w = _
            rw [if_pos (by omega)]
            rfl
        · cases h
    · rename_i x n pt has hpt
      have hargs := rnds_sound cx has
      generalize c.args.toList.map a.eval = l at hargs
      match l, hargs with
      | [ux, un], hargs =>
        split at hc
        · rename_i el hu
          split at hc
          · rename_i hs
            cases hc
            simp only [opA] at h
            exact (ustring_sound cx.rel hpt hu hs hargs.1 hargs.2.1 h).does
          · cases hc
        · cases hc
    · cases hc
  · cases hc

theorem op_sim (hX : ExtOk P X) (cx : Cx P w0 ρ H w e a) {o : Oper} {m : MOp} {v : AV} {H' : Heap} (hc : cOp P X o.op = some m) (hcall : isCall m = false) (h : opA m e H = some (v, H')) :
    Does P w0 ρ H w (execOp a.eval o) v H' := by
  cases hm : memOp m with
  | false =>
    obtain ⟨h1, rfl⟩ := opA_pure hm h
    exact Does.pure cx.rel (pure_sim hX cx hc h1)
  | true =>
    unfold execOp
    cases hop : o.op <;> rw [hop] at hc <;> simp only [cOp] at hc
    case alloc t =>
      simp only [Option.map_eq_some_iff] at hc
      obtain ⟨z, hz, rfl⟩ := hc
      simp only [opA, Option.some.injEq, Prod.mk.injEq] at h
      obtain ⟨rfl, rfl⟩ := h
      exact (alloc_sound cx.rel hz).does
    case box t x =>
      simp only [Option.map_eq_some_iff] at hc
      obtain ⟨r, hr, rfl⟩ := hc
      simp only [opA, Option.map_eq_some_iff, Prod.mk.injEq] at h
      obtain ⟨cs, hcs, rfl, rfl⟩ := h
      exact (box_sound cx.rel (rnd_sound cx hr) hcs).does
    case buildSlice t n ps =>
      split at hc
      · rename_i el hu
        split at hc
        · rename_i sz z hn hz
          split at hc
          · rename_i hcond
            simp only [Option.map_eq_some_iff] at hc
            obtain ⟨l, hl, rfl⟩ := hc
            simp only [opA, Option.map_eq_some_iff, Prod.mk.injEq] at h
            obtain ⟨cs, hcs, rfl, rfl⟩ := h
            exact (buildSlice_sound cx hu hn hz hcond.1 hcond.2 hl hcs).does
          · cases hc
        · cases hc
      · cases hc
    case load t x =>
      split at hc
      · rename_i g r hg hr
        cases hc
        simp only [opA, Option.map_eq_some_iff, Prod.mk.injEq] at h
        obtain ⟨u, hu, rfl, rfl⟩ := h
        obtain ⟨z, hz, az⟩ := load_sound cx.rel hg (rnd_sound cx hr) hu
        exact Does.same cx.rel hz az
      · cases hc
    case store t x y =>
      split at hc
      · rename_i n r s hn hr hs
        cases hc
        simp only [opA, Option.map_eq_some_iff, Prod.mk.injEq] at h
        obtain ⟨H1, hu, rfl, rfl⟩ := h
        obtain ⟨w', s1, s2, s3⟩ := store_sound cx.rel hn (rnd_sound cx hr) (rnd_sound cx hs) hu
        exact Does.unit s1 s2 s3
      · cases hc
    case convert s d x =>
      split at hc
      · rename_i c r hcv hr
        cases hc
        have hh : convA c (rd e r) H = some (v, H') := by
          cases c with
          | int k =>
            simp only [opA] at h
            split at h
            · rename_i j n hx; rw [hx]; exact h
            · cases h
          | _ => exact h
        exact (conv_sound cx.rel hcv (rnd_sound cx hr) hh).does
      · cases hc
    case makeSlice t x y =>
      split at hc
      · rename_i el hu
        split at hc
        · rename_i n b z l c hn hb hz hl hcc
          split at hc
          · rename_i hzl
            cases hc
            simp only [opA] at h
            split at h
            · rename_i l' c' h1 h2
              split at h
              · rename_i hcond
                simp only [Option.some.injEq, Prod.mk.injEq] at h
                obtain ⟨rfl, rfl⟩ := h
                exact (makeSlice_sound cx.rel hu hn hb hz hzl (rnd_sound cx hl) (rnd_sound cx hcc) h1 h2 hcond.1 hcond.2.1 hcond.2.2).does
              · cases h
            · cases h
          · cases hc
        · cases hc
      · cases hc
    case slice t x lo hi mx =>
      cases mx with
      | some _ => simp at hc
      | none =>
        simp only [Option.isSome_none, Bool.false_eq_true, if_false] at hc
        split at hc
        · cases hc; simp [memOp] at hm
        · rename_i el x' lo' hi' hu hx hlo hhi
          simp only [Option.map_eq_some_iff] at hc
          obtain ⟨n, hn, rfl⟩ := hc
          simp [memOp] at hm
        · rename_i n el x' lo' hi' hu hx hlo hhi
          simp only [Option.map_eq_some_iff] at hc
          obtain ⟨sz, hn, rfl⟩ := hc
          simp only [opA] at h
          split at h
          · rename_i id off hxx
            split at h
            · rename_i l g hb
              split at h
              · rename_i ty cs hg
                split at h
                · cases h
                · rename_i hln
                  simp only [Option.some.injEq, Prod.mk.injEq] at h
                  obtain ⟨rfl, rfl⟩ := h
                  have := rnd_sound cx hx
                  rw [hxx] at this
                  exact (sliceArr_sound cx hu hn hlo hhi this hb hg hln).does
              · cases h
            · cases h
          · cases h
        · cases hc
    case range t x =>
      split at hc
      · rename_i r hu hr
        cases hc
        simp only [opA] at h
        split at h
        · rename_i s hs
          simp only [Option.some.injEq, Prod.mk.injEq] at h
          obtain ⟨rfl, rfl⟩ := h
          have := rnd_sound cx hr
          rw [hs] at this
          have this : a.eval x = .string ⟨s.toArray⟩ := this
          have hg := range_sound (s := s) cx.rel hu
          rw [← this] at hg
          exact hg.does
        · cases h
      · cases hc
    case next x b =>
      cases b with
      | false => simp at hc
      | true =>
        simp only [if_true, Option.map_eq_some_iff] at hc
        obtain ⟨r, hr, rfl⟩ := hc
        simp only [opA] at h
        exact (next_sound cx.rel (rnd_sound cx hr) h o.type).does
    case call c => exact call_mem_sim cx hm hc h
    case move => simp only [Option.map_eq_some_iff] at hc; obtain ⟨r, hr, rfl⟩ := hc; simp [memOp] at hm
    case assign => simp only [Option.map_eq_some_iff] at hc; obtain ⟨r, hr, rfl⟩ := hc; simp [memOp] at hm
    case pick => split at hc <;> cases hc; simp [memOp] at hm
    case build =>
      split at hc
      · simp only [Option.map_eq_some_iff] at hc; obtain ⟨r, hr, hc⟩ := hc; split at hc <;> subst hc <;> simp [memOp] at hm
      · split at hc
        · simp only [Option.map_eq_some_iff] at hc; obtain ⟨r, hr, rfl⟩ := hc; simp [memOp] at hm
        · cases hc
      · cases hc
    case nilCheck => simp only [Option.map_eq_some_iff] at hc; obtain ⟨r, hr, rfl⟩ := hc; simp [memOp] at hm
    case binOp => split at hc <;> cases hc; simp [memOp] at hm
    case unOp => simp only [Option.map_eq_some_iff] at hc; obtain ⟨r, hr, rfl⟩ := hc; simp [memOp] at hm
    case makeFunc fn first caps =>
      split at hc
      · split at hc
        · simp only [Option.map_eq_some_iff] at hc; obtain ⟨r, hr, rfl⟩ := hc; simp [memOp] at hm
        · cases hc
      · cases hc
    case fieldAddr =>
      split at hc
      · split at hc
        · split at hc
          · split at hc <;> cases hc; simp [memOp] at hm
          · cases hc
        · cases hc
      · cases hc
    case field =>
      split at hc
      · split at hc
        · simp only [Option.map_eq_some_iff] at hc; obtain ⟨r, hr, rfl⟩ := hc; simp [memOp] at hm
        · cases hc
      · cases hc
    case indexAddr =>
      split at hc
      · simp only [Option.map_eq_some_iff] at hc; obtain ⟨r, hr, rfl⟩ := hc; simp [memOp] at hm
      · simp only [Option.map_eq_some_iff] at hc; obtain ⟨r, hr, rfl⟩ := hc; simp [memOp] at hm
      · cases hc
    case index =>
      split at hc
      · cases hc; simp [memOp] at hm
      · split at hc <;> cases hc; simp [memOp] at hm
      · cases hc
    case extract => simp only [Option.map_eq_some_iff] at hc; obtain ⟨r, hr, rfl⟩ := hc; simp [memOp] at hm
    all_goals cases hc

end
end Go.Jx
