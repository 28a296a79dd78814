/-
  Memory: append, copy, clear, in the plain machine and in the model.
-/
import Derived.Test.YtfmldkjidfigbaaDoorJxMem3
namespace Go.Jx
open Go Go.RowKit
set_option linter.unusedSimpArgs false
set_option linter.unusedVariables false

section
variable {P : Program} {w0 w : World} {ρ : Rho} {H : Heap} {e : List AV} {a : Act} {X : Exts}

theorem drew_rel (hr : Rel P w0 ρ H w) : Rel P w0 ρ H { w with drawn := w.drawn + 1 } := hr.of_eq rfl rfl rfl rfl

theorem append_new {ats : Array TypeId} {ty st t : TypeId} {size bytes : Nat} {z : List SV} (T : AppendTy P ats st t size bytes z) {base : Option Addr} {sLen sCap n : Nat} {ux : Value} {old new : List SV} {H1 : Heap}
    (hr : Rel P w0 ρ H w) (hr1 : Rel P w0 ρ H1 w) (hx1 : Ext ρ H ρ H1) (hl : ∀ w, (Builtin.lenOf ux).run P w = .ok n w) (hcap : sCap < sLen + n) (hroom : roomC (sLen + n) sCap bytes = true)
    (ho : ∀ w, Rel P w0 ρ H w → ∃ lo : List Value, (Builtin.firstCells size sLen (.slice base sLen sCap)).run P w = .ok lo.toArray w ∧ LR (SVR ρ) old lo)
    (hn : ∀ w, Rel P w0 ρ H w → ∃ ln : List Value, (Builtin.firstCells size n ux).run P w = .ok ln.toArray w ∧ LR (SVR ρ) new ln) :
    Gives P w0 ρ H w (Builtin.append_ ats ty #[.slice base sLen sCap, ux]) (.sc (.slice H1.n 0 (sLen + n) (sLen + n))) (H1.push (.cells t .grow (old ++ new))) := by
  obtain ⟨lo, f1, r1⟩ := ho _ (drew_rel hr)
  obtain ⟨ln, f2, r2⟩ := hn _ (drew_rel hr)
  obtain ⟨newCap, rest, c1, c2, c3⟩ := append_grows (ty := ty) T (hl w) hcap hroom f1 f2
  obtain ⟨n1, n2⟩ := new_sound (drew_rel hr1) t .grow (old ++ new) (lo ++ ln) rest (newCap - (sLen + n)) (r1.append r2) (fun h => by cases h) c2
  refine ⟨_, _, _, c3, ⟨_, add_self _ _ _, ?_⟩, n1, hx1.trans n2⟩
  simp only [Tgt.addr, Nat.zero_add]
  congr 1
  omega

theorem append_sound (hr : Rel P w0 ρ H w) {ats : Array TypeId} {ty st t : TypeId} {size bytes : Nat} {z : List SV} {s x v : AV} {us ux : Value} {H' : Heap}
    (T : AppendTy P ats st t size bytes z) (hs : AVR ρ s us) (hx : AVR ρ x ux) (h : appendA t size bytes s x H = some (v, H')) :
    Gives P w0 ρ H w (Builtin.append_ ats ty #[us, ux]) v H' := by
  unfold appendA at h
  split at h
  · cases h
  · rename_i n hlen
    split at h
    · cases h
    · rename_i new hfirst
      have hl : ∀ w, (Builtin.lenOf ux).run P w = .ok n w := fun w => run_lenOf (P := P) (w := w) hx hlen
      have hf : ∀ w, Rel P w0 ρ H w → ∃ ln : List Value, (Builtin.firstCells size n ux).run P w = .ok ln.toArray w ∧ LR (SVR ρ) new ln := fun w hr => run_firstCells hr hx hfirst
      split at h
      · rename_i hn0
        subst hn0
        obtain ⟨ln, f1, f2⟩ := hf w hr
        have hln : ln = [] := by
          have hne : new = [] := by
            unfold firstA at hfirst
            (repeat' split at hfirst) <;> simp_all
          rw [hne] at f2
          cases ln with
          | nil => rfl
          | cons _ _ => exact f2.elim
        subst hln
        split at h
        · cases h
          have hs : us = .slice none 0 0 := hs
          subst hs
          exact ⟨ρ, w, _, append_stays T (hl w) (Nat.le_refl _) f1 (by rfl), rfl, hr, Ext.refl _ _⟩
        · cases h
          obtain ⟨ad, c, rfl, hk⟩ := hs
          exact ⟨ρ, w, _, append_stays T (hl w) (Nat.zero_le _) f1 (by rfl), ⟨ad, c, rfl, hk⟩, hr, Ext.refl _ _⟩
        · split at h
          · rename_i hlc
            cases h
            obtain ⟨tg, ht, rfl⟩ := hs
            exact ⟨ρ, w, _, append_stays T (hl w) (by omega) f1 (by rfl), ⟨tg, ht, rfl⟩, hr, Ext.refl _ _⟩
          · cases h
        · cases h
      · rename_i hn0
        split at h
        · cases h
        · rename_i hnl
          have hnl : new.length = n * size := Decidable.byContradiction hnl
          have grown : ∀ {old : List SV} {base : Option Addr} {sLen sCap : Nat}, us = .slice base sLen sCap → sCap < sLen + n →
              (∀ w, Rel P w0 ρ H w → ∃ lo : List Value, (Builtin.firstCells size sLen (.slice base sLen sCap)).run P w = .ok lo.toArray w ∧ LR (SVR ρ) old lo) →
              grownA t bytes old new (sLen + n) sCap H = some (v, H') → Gives P w0 ρ H w (Builtin.append_ ats ty #[us, ux]) v H' := by
            intro old base sLen sCap e hcap ho hg
            subst e
            unfold grownA at hg
            split at hg
            · rename_i hroom
              cases hg
              exact append_new T hr hr (Ext.refl _ _) hl hcap hroom ho hf
            · cases hg
          split at h
          · have hs : us = .slice none 0 0 := hs
            refine grown (old := []) hs (by omega) (fun w hr => ⟨[], rfl, trivial⟩) (by rw [Nat.zero_add]; exact h)
          · obtain ⟨ad, c, hs, hk⟩ := hs
            have hk := hk rfl
            subst hk
            refine grown (old := []) hs (by omega) (fun w hr => ⟨[], ?_, trivial⟩) (by rw [Nat.zero_add]; exact h)
            simp [Builtin.firstCells, loadCells, loadCellsFrom]
          · rename_i id off len cap
            obtain ⟨tg, ht, hs⟩ := hs
            split at h
            · rename_i t' cs hg
              have ho := hr.objs _ _ _ ht hg
              have hex : tg.extra = 0 := by obtain ⟨c, ty', fz, _, _, _, h4⟩ := ho; exact h4 rfl
              rw [hex, Nat.add_zero] at hs
              split at h
              · rename_i hle
                split at h
                · rename_i cs' hw
                  cases h
                  obtain ⟨ln, f1, f2⟩ := hf w hr
                  obtain ⟨w', s1, s2, s3⟩ := write_sound hr ht hg (by simp) hw f2
                  refine ⟨ρ, w', _, by rw [hs]; exact append_stays T (hl w) hle f1 (by dsimp only; rw [addr_add]; exact s1), ⟨tg, ht, by rw [hex]; rfl⟩, s2, s3⟩
                · cases h
              · rename_i hle
                split at h
                · rename_i old hro
                  refine grown hs (by omega) (fun w hr => ?_) h
                  obtain ⟨l, q1, q2, q3⟩ := read_cells (hr.objs _ _ _ ht hg) hro
                  exact ⟨l, by simp only [Builtin.firstCells]; exact run_loadN q2 q3, q1⟩
                · cases h
            · rename_i t' cs hg
              have ho := hr.objs _ _ _ ht hg
              split at h
              · rename_i hcond
                obtain ⟨hoff, htt, hcs, hroom⟩ := hcond
                subst hoff; subst htt
                split at h
                · rename_i old hro
                  simp only [Option.some.injEq, Prod.mk.injEq] at h
                  obtain ⟨rfl, rfl⟩ := h
                  have hold : ∀ w, Rel P w0 ρ H w → ∃ lo : List Value, (Builtin.firstCells size len (.slice (some (tg.addr 0)) len (cap + tg.extra))).run P w = .ok lo.toArray w ∧ LR (SVR ρ) old lo := by
                    intro w hr
                    obtain ⟨l, q1, q2, q3⟩ := read_cells (hr.objs _ _ _ ht hg) hro
                    exact ⟨l, by simp only [Builtin.firstCells]; exact run_loadN q2 q3, q1⟩
                  obtain ⟨k1, k2⟩ := hr.kill ht
                  rcases Nat.lt_or_ge (cap + tg.extra) (len + n) with hcap | hcap
                  · have := append_new (ty := ty) T hr k1 k2 hl hcap (roomC_of hroom) hold hf
                    rw [← hs, Heap.set_n] at this
                    exact this
                  · -- it stays where it is
                    obtain ⟨c, ty', fz, o1, o2, o3, o4⟩ := ho
                    obtain ⟨b1, b2, b3, b4, b5⟩ := o3 (by simp)
                    subst b2
                    obtain ⟨ln, f1, f2⟩ := hf w hr
                    obtain ⟨lo, g1, g2⟩ := hold w hr
                    have hsz := cellsOf_of T.hn
                    have hsize : c.size = (cap + tg.extra) * size := by rw [b5, hsz, ← hcs, Nat.add_mul]
                    have hfit : len * size + ln.length ≤ c.size := by
                      rw [← f2.length, hnl, hsize, ← Nat.add_mul]; exact Nat.mul_le_mul_right _ hcap
                    have hone : ∀ v ∈ ln, v.oneCell' = true := by
                      intro v hv
                      obtain ⟨i, hi, e⟩ := List.getElem_of_mem hv
                      have hi' : i < new.length := by rw [f2.length]; exact hi
                      obtain ⟨y, hy, ry⟩ := f2.get (i := i) (x := new[i]) (by simp [hi'])
                      rw [List.getElem?_eq_getElem hi, Option.some.injEq] at hy
                      rw [← e, hy]; exact ry.oneCell
                    obtain ⟨w', cur', r1, r2, r3, r4, r5, r6, r7, r8⟩ := run_stores (P := P) tg.block (len * size) _ fz ln 0 c w o1 b4 (by simpa using hfit) hone
                    have haddr : (tg.addr 0).add (len * size) = ⟨tg.block, len * size, none⟩ := by rw [addr_add]; simp [Tgt.addr, b1]
                    have hlo : lo.length = len * size := by
                      rw [← g2.length]
                      unfold readN at hro
                      split at hro
                      · cases hro; simp; omega
                      · cases hro
                    have hcsz : cur'.size = c.size := by rw [← Array.length_toList, r3]; simp; omega
                    have hloc : ∀ i, i < len * size → c[i]? = lo[i]? := by
                      intro i hi
                      have : lo[i]? = some lo[i] := by simp [hlo, hi]
                      obtain ⟨l, q1, q2, q3⟩ := read_cells (hr.objs _ _ _ ht hg) hro
                      have hrun : (Builtin.firstCells size len (.slice (some (tg.addr 0)) len (cap + tg.extra))).run P w = .ok l.toArray w := by simp only [Builtin.firstCells]; exact run_loadN q2 q3
                      rw [g1] at hrun
                      have hll : lo = l := by
                        have := (Result.ok.injEq _ _ _ _).mp hrun
                        exact congrArg Array.toList this.1
                      subst hll
                      have := q3 i lo[i] (by simp [hlo, hi])
                      rw [addr_add, cell_at o1, b1] at this
                      rw [Nat.zero_add, Nat.zero_add] at this
                      rw [this]; simp [hlo, hi]
                    refine ⟨ρ.add H.n ⟨tg.block, 0, cap + tg.extra - (len + n)⟩, w', _, by rw [hs]; exact append_stays T (hl w) hcap f1 (by dsimp only; rw [haddr]; exact r1), ⟨_, add_self _ _ _, ?_⟩, ?_⟩
                    · simp only [Tgt.addr, b1]
                      congr 1
                      omega
                    · refine hr.rehome ht hg (by simp [AO.owned]) r4 r5 r6 r7 r8 b3 (cap + tg.extra - (len + n)) (.cells _ .grow (old ++ new)) ?_
                      refine ⟨cur', _, fz, r2, fun i s hs => ?_, fun _ => ⟨rfl, rfl, b3, fun i hi => b4 i (by omega), ?_⟩, fun h => by cases h⟩
                      · rw [Nat.zero_add, ← Array.getElem?_toList, r3, Nat.add_zero]
                        have ltk : (List.take (len * size) c.toList).length = len * size := by simp; omega
                        rw [List.append_assoc, List.getElem?_append, ltk]
                        rw [List.getElem?_append, g2.length, hlo] at hs
                        split at hs
                        · rename_i hi
                          rw [if_pos hi, List.getElem?_take, if_pos hi, Array.getElem?_toList, hloc i hi]
                          exact g2.get hs
                        · rename_i hi
                          rw [if_neg hi]
                          have hlt : i - len * size < ln.length := by rw [← f2.length]; exact (List.getElem?_eq_some_iff.1 hs).1
                          rw [List.getElem?_append, if_pos hlt]
                          exact f2.get hs
                      · rw [hcsz, hsize, List.length_append, g2.length, hlo, hnl, hsz, ← Nat.add_mul, ← Nat.add_mul]
                        congr 1
                        show cap + tg.extra = len + n + (cap + tg.extra - (len + n))
                        omega
                · cases h
              · cases h
            · cases h
          · cases h

theorem copy_sound (hr : Rel P w0 ρ H w) {ats : Array TypeId} {ty dt el : TypeId} {size : Nat} {d s v : AV} {ud us : Value} {H' : Heap} (h0 : ats[0]? = some dt) (hdt : P.underlying dt = some (.slice el)) (hn : size? P el = some size)
    (hd : AVR ρ d ud) (hs : AVR ρ s us) (h : copyA size d s H = some (v, H')) : Gives P w0 ρ H w (Builtin.copy_ ats ty #[ud, us]) v H' := by
  unfold copyA at h
  split at h
  · cases h
  · rename_i sl hsl
    have hl := run_lenOf (P := P) (w := w) hs hsl
    have head : ∀ (base : Option Addr) (dLen dCap : Nat) (l : List Value) (w' : World), ud = .slice base dLen dCap → (Builtin.firstCells size (Nat.min sl dLen) us).run P w = .ok l.toArray w →
        (match base with | some a => storeCells a l | none => pure () : Sem Unit).run P w = .ok () w' → (Builtin.copy_ ats ty #[ud, us]).run P w = .ok (.int .i64 (Nat.min sl dLen)) w' := by
      intro base dLen dCap l w' e hf hst
      subst e
      unfold Builtin.copy_
      rw [h0, show (#[Value.slice base dLen dCap, us])[0]? = some (.slice base dLen dCap) from rfl, show (#[Value.slice base dLen dCap, us])[1]? = some us from rfl]
      dsimp only
      rw [bind_ok (run_underlying hdt)]
      dsimp only
      rw [bind_ok hl, bind_ok (run_sizeOf hn), bind_ok hf]
      cases base with
      | none => simp only [Sem.run_pure, Result.ok.injEq, true_and] at hst; subst hst; rfl
      | some ad => dsimp only at hst ⊢; rw [bind_ok hst]; rfl
    have zero : ∀ (base : Option Addr), (Builtin.firstCells size (Nat.min sl 0) us).run P w = .ok ([] : List Value).toArray w := by
      intro base
      have hm : Nat.min sl 0 = 0 := Nat.min_zero sl
      rw [hm]
      unfold lenA at hsl
      split at hsl
      · cases hs; rfl
      · obtain ⟨ad, c, rfl, _⟩ := hs; simp [Builtin.firstCells, loadCells, loadCellsFrom]
      · obtain ⟨tg, ht, rfl⟩ := hs; simp [Builtin.firstCells, loadCells, loadCellsFrom]
      · rename_i b
        have hs : us = .string ⟨b.toArray⟩ := hs
        subst hs
        simp only [Builtin.firstCells, Sem.run_pure]
        congr 1
        apply Array.ext'
        simp [ByteArray.data_extract]
      · cases hsl
    split at h
    · cases h
      have hd : ud = .slice none 0 0 := hd
      exact ⟨ρ, w, _, head none 0 0 [] w hd (zero none) rfl, by simp [Nat.min_zero, AVR, AVR1, SVR], hr, Ext.refl _ _⟩
    · cases h
      obtain ⟨ad, c, hd, _⟩ := hd
      exact ⟨ρ, w, _, head (some ad) 0 c [] w hd (zero none) rfl, by simp [Nat.min_zero, AVR, AVR1, SVR], hr, Ext.refl _ _⟩
    · rename_i id off len cap
      obtain ⟨tg, ht, hd⟩ := hd
      split at h
      · cases h
      · rename_i new hfirst
        obtain ⟨l, f1, f2⟩ := run_firstCells hr hs hfirst
        split at h
        · rename_i hnil
          cases h
          subst hnil
          cases l with
          | nil => exact ⟨ρ, w, _, head _ len _ [] w hd f1 rfl, rfl, hr, Ext.refl _ _⟩
          | cons _ _ => exact f2.elim
        · split at h
          · rename_i t k cs hg
            split at h
            · cases h
            · rename_i hk
              split at h
              · rename_i cs' hw
                cases h
                obtain ⟨w', s1, s2, s3⟩ := write_sound hr ht hg hk hw f2
                exact ⟨ρ, w', _, head _ len _ l w' hd f1 s1, rfl, s2, s3⟩
              · cases h
          · cases h
    · cases h

theorem clear_sound (hr : Rel P w0 ρ H w) {ats : Array TypeId} {ty dt el : TypeId} {z : List SV} {x : AV} {ux : Value} {H' : Heap} (h0 : ats[0]? = some dt) (hdt : P.underlying dt = some (.slice el)) (hz : zero? P el = some z)
    (hx : AVR ρ x ux) (h : clearA z x H = some H') : Gives P w0 ρ H w (Builtin.clear_ ats ty #[ux]) undefA H' := by
  have head : ∀ (base : Option Addr) (n c : Nat) (w' : World), ux = .slice base n c → (base = none ∨ n = 0) → w' = w → (Builtin.clear_ ats ty #[ux]).run P w = .ok (.tuple #[]) w' := by
    intro base n c w' e hh hw
    subst e; subst hw
    unfold Builtin.clear_
    rw [h0, show (#[Value.slice base n c])[0]? = some (.slice base n c) from rfl]
    dsimp only
    rw [bind_ok (run_underlying hdt)]
    rcases hh with hh | hh
    · subst hh; rfl
    · subst hh; cases base <;> rfl
  unfold clearA at h
  split at h
  · cases h
    have hx : ux = .slice none 0 0 := hx
    exact ⟨ρ, w, _, head none 0 0 w hx (.inl rfl) rfl, AVR.undef _, hr, Ext.refl _ _⟩
  · cases h
    obtain ⟨ad, c, hx, _⟩ := hx
    exact ⟨ρ, w, _, head (some ad) 0 c w hx (.inr rfl) rfl, AVR.undef _, hr, Ext.refl _ _⟩
  · rename_i id off len cap
    obtain ⟨tg, ht, hx⟩ := hx
    split at h
    · rename_i h0'
      cases h; subst h0'
      exact ⟨ρ, w, _, head _ 0 _ w hx (.inr rfl) rfl, AVR.undef _, hr, Ext.refl _ _⟩
    · rename_i hlen
      split at h
      · rename_i t k cs hg
        split at h
        · cases h
        · rename_i hk
          simp only [Option.map_eq_some_iff] at h
          obtain ⟨cs', hw, rfl⟩ := h
          obtain ⟨v, hv, hvr⟩ := run_zero (w := w) hz
          have hzz := zeros_sound (hvr ρ) len
          obtain ⟨w', s1, s2, s3⟩ := write_sound hr ht hg hk hw hzz
          refine ⟨ρ, w', .tuple #[], ?_, AVR.undef _, s2, s3⟩
          subst hx
          unfold Builtin.clear_
          rw [h0, show (#[Value.slice (some (tg.addr off)) len (cap + tg.extra)])[0]? = some (.slice (some (tg.addr off)) len (cap + tg.extra)) from rfl]
          dsimp only
          rw [bind_ok (run_underlying hdt)]
          obtain ⟨m, rfl⟩ : ∃ m, len = m + 1 := ⟨len - 1, by omega⟩
          change Sem.run P (zeroValue el >>= fun q => storeCells (tg.addr off) (Builtin.zeroCells q.cells (m + 1)).toList >>= fun _ => pure (Value.tuple #[])) w = _
          rw [bind_ok hv, bind_ok (u := ()) (w' := w') (by exact s1)]
          rfl
      · cases h
  · cases h

end
end Go.Jx
