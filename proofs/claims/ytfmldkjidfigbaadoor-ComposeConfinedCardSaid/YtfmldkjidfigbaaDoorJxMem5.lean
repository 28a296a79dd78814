/-
  Memory: making, slicing, texts, in the plain machine and in the model; all together: 'op_sim'.
-/
import Derived.Test.YtfmldkjidfigbaaDoorJxMem4
namespace Go.Jx
open Go Go.RowKit
set_option linter.unusedSimpArgs false
set_option linter.unusedVariables false

section
variable {P : Program} {w0 w : World} {ρ : Rho} {H : Heap} {e : List AV} {a : Act} {X : Exts}

theorem addr_zero (b : Nat) : (⟨b, 0, 0⟩ : Tgt).addr 0 = ⟨b, 0, none⟩ := rfl

theorem wrap_small {n : Int} (h0 : 0 ≤ n) (h1 : n ≤ IntKind.i64.max) : IntKind.i64.wrap n = n := by
  have : IntKind.i64.max = 9223372036854775807 := by decide
  rw [this] at h1
  simp only [IntKind.wrap, IntKind.bits, IntKind.signed, Bool.true_and, decide_eq_true_eq, show (2 : Int) ^ 64 = 18446744073709551616 from rfl, show (64 - 1 : Nat) = 63 from rfl, show (2 : Int) ^ 63 = 9223372036854775808 from rfl]
  rw [if_neg (by omega)]
  omega

theorem alloc_sound (hr : Rel P w0 ρ H w) {t : TypeId} {z : List SV} (hz : zero? P t = some z) : Gives P w0 ρ H w (Instr.alloc t true (.tuple #[])) (.sc (.ptr H.n 0)) (H.push (.cells t .own z)) := by
  obtain ⟨v, hv, hvr⟩ := run_zero (w := w) hz
  obtain ⟨n1, n2⟩ := new_own hr t z v.cells (hvr ρ)
  refine ⟨_, _, .pointer (some ⟨w.heap.size, 0, none⟩), ?_, ⟨_, add_self _ _ _, rfl⟩, n1, n2⟩
  unfold Instr.alloc
  rw [bind_ok hv]
  simp only [newVar, newRow, Sem.run_bind, run_newObj, Result.andThen_ok, Sem.run_pure]

theorem box_sound (hr : Rel P w0 ρ H w) {t : TypeId} {x : AV} {u : Value} {cs : List SV} (hx : AVR ρ x u) (hc : cellsOfAV x = some cs) : Gives P w0 ρ H w (Instr.box t u) (.sc (.ptr H.n 0)) (H.push (.cells t .own cs)) := by
  obtain ⟨c1, c2⟩ := cells_AVR hc hx
  obtain ⟨n1, n2⟩ := new_own hr t cs u.cells c1
  refine ⟨_, _, .pointer (some ⟨w.heap.size, 0, none⟩), ?_, ⟨_, add_self _ _ _, rfl⟩, n1, n2⟩
  simp only [Instr.box, newVar, newRow, Sem.run_bind, run_newObj, Result.andThen_ok, Sem.run_pure]

theorem buildSlice_sound (cx : Cx P w0 ρ H w e a) {t el : TypeId} {size n : Nat} {z : List SV} {ps : Array (Nat × Operand)} {l : List (Nat × Nat × Rnd)} {cs : List SV} (hu : P.underlying t = some (.slice el)) (hn : size? P el = some size) (hz : zero? P el = some z)
    (hzl : z.length = size) (hroom : n * size ≤ 2 ^ 24) (hp : partsAt? P (fun i => some (i * size, size)) ps.toList = some l) (hf : fillA (zerosA z n) (l.map fun p => (p.1, p.2.1, rd e p.2.2)) = some cs) :
    Gives P w0 ρ H w (Instr.buildSlice t n (ps.map fun p => (p.1, a.eval p.2))) (.sc (.slice H.n 0 n n)) (H.push (.cells el .own cs)) := by
  obtain ⟨v, hv, hvr⟩ := run_zero (w := w) hz
  have hvs : v.cells.size = size := by
    have := (hvr ρ).length
    rw [← hzl, this]; simp
  have key : ∃ zz : Array Value, (n * size = 0 ∧ zz = #[] ∨ ¬ n * size = 0 ∧ zz = v.cells) ∧ LR (SVR ρ) (zerosA z n) ((Array.range (n * size)).map fun i => zz[i % zz.size]!).toList := by
    by_cases h0 : n * size = 0
    · refine ⟨#[], .inl ⟨h0, rfl⟩, ?_⟩
      have : zerosA z n = [] := by apply List.eq_nil_of_length_eq_zero; rw [zerosA_length, hzl, h0]
      rw [this, h0]; simp [LR]
    · refine ⟨v.cells, .inr ⟨h0, rfl⟩, ?_⟩
      have := zeros_sound (hvr ρ) n
      rwa [hvs] at this ⊢
  obtain ⟨zz, k1, k2⟩ := key
  obtain ⟨cells', f1, f2⟩ := fill_sound _ cx ps.toList l (zerosA z n) ((Array.range (n * size)).map fun i => zz[i % zz.size]!) cs hp k2 hf
  obtain ⟨n1, n2⟩ := new_own cx.rel el cs cells' f2
  refine ⟨_, _, .slice (some ⟨w.heap.size, 0, none⟩) n n, ?_, ⟨_, add_self _ _ _, rfl⟩, n1, n2⟩
  unfold Instr.buildSlice
  rw [bind_ok (run_underlying hu)]
  try dsimp only
  rw [bind_ok (run_sizeOf hn), if_neg (by omega)]
  try dsimp only
  rcases k1 with ⟨h0, rfl⟩ | ⟨h0, rfl⟩
  · rw [if_pos h0]
    refine (bind_ok (u := #[]) (w' := w) rfl).trans ?_
    rw [Array.toList_map, f1]
    simp only [newRow, Sem.run_bind, run_newObj, Result.andThen_ok, Sem.run_pure]
  · rw [if_neg h0, bind_ok hv]
    refine (bind_ok (u := v.cells) (w' := w) rfl).trans ?_
    rw [Array.toList_map, f1]
    simp only [newRow, Sem.run_bind, run_newObj, Result.andThen_ok, Sem.run_pure]

theorem makeSlice_sound (hr : Rel P w0 ρ H w) {t el : TypeId} {size bytes : Nat} {z : List SV} {x y : AV} {ux uy : Value} {l c : Nat} (hu : P.underlying t = some (.slice el)) (hn : size? P el = some size) (hb : bytes? P el = some bytes) (hz : zero? P el = some z)
    (hzl : z.length = size) (hx : AVR ρ x ux) (hy : AVR ρ y uy) (hl : natA x = some l) (hc : natA y = some c) (h1 : l ≤ c) (h2 : bytes * c ≤ 2 ^ 48) (h3 : (c : Int) ≤ IntKind.i64.max) :
    Gives P w0 ρ H w (Instr.makeSlice t ux uy) (.sc (.slice H.n 0 l c)) (H.push (.cells el .own (zerosA z c))) := by
  obtain ⟨k1, i1, rfl, p1, q1⟩ := nat_sound hx hl
  obtain ⟨k2, i2, rfl, p2, q2⟩ := nat_sound hy hc
  obtain ⟨v, hv, hvr⟩ := run_zero (w := w) hz
  obtain ⟨inf, hi, hib⟩ := run_bytes (w := w) hb
  have e1 : i1 = (l : Int) := by omega
  have e2 : i2 = (c : Int) := by omega
  subst e1; subst e2
  have w1 : IntKind.i64.wrap (l : Int) = l := wrap_small (by omega) (by omega)
  have w2 : IntKind.i64.wrap (c : Int) = c := wrap_small (by omega) (by omega)
  have hvs : v.cells.size = size := by
    have := (hvr ρ).length
    rw [← hzl, this]; simp
  have key : ∃ zz : Array Value, (c * size = 0 ∧ zz = #[] ∨ ¬ c * size = 0 ∧ zz = v.cells) ∧ LR (SVR ρ) (zerosA z c) ((Array.range (c * size)).map fun i => zz[i % zz.size]!).toList := by
    by_cases h0 : c * size = 0
    · refine ⟨#[], .inl ⟨h0, rfl⟩, ?_⟩
      have : zerosA z c = [] := by apply List.eq_nil_of_length_eq_zero; rw [zerosA_length, hzl, h0]
      rw [this, h0]; simp [LR]
    · refine ⟨v.cells, .inr ⟨h0, rfl⟩, ?_⟩
      have := zeros_sound (hvr ρ) c
      rwa [hvs] at this ⊢
  obtain ⟨zz, z1, z2⟩ := key
  obtain ⟨n1, n2⟩ := new_own hr el (zerosA z c) _ z2
  refine ⟨_, _, .slice (some ⟨w.heap.size, 0, none⟩) l c, ?_, ⟨_, add_self _ _ _, rfl⟩, n1, n2⟩
  have hb' : ((bytes : Int) * (c : Int)) ≤ 2 ^ 48 := by exact_mod_cast h2
  unfold Instr.makeSlice
  rw [bind_ok (run_underlying hu)]
  try dsimp only
  have a1 : (asInt (.int k1 (l : Int))).run P w = .ok (l : Int) w := rfl
  have a2 : (asInt (.int k2 (c : Int))).run P w = .ok (c : Int) w := rfl
  rw [bind_ok a1, bind_ok a2, bind_ok hi]
  try dsimp only
  rw [w1, w2, hib, if_neg (by simp only [Bool.or_eq_true, decide_eq_true_eq]; omega)]
  try dsimp only
  rw [bind_ok (run_askRoom _ _ _), bind_ok (run_sizeOf hn)]
  try dsimp only
  rw [Int.toNat_natCast]
  rcases z1 with ⟨h0, rfl⟩ | ⟨h0, rfl⟩
  · rw [if_pos h0]
    refine (bind_ok (u := #[]) (w' := w) rfl).trans ?_
    simp only [newRow, Sem.run_bind, run_newObj, Result.andThen_ok, Sem.run_pure, Int.toNat_natCast]
  · rw [if_neg h0, bind_ok hv]
    refine (bind_ok (u := v.cells) (w' := w) rfl).trans ?_
    simp only [newRow, Sem.run_bind, run_newObj, Result.andThen_ok, Sem.run_pure, Int.toNat_natCast]

theorem sliceArr_sound (cx : Cx P w0 ρ H w e a) {t el : TypeId} {n size : Nat} {u : Value} {lo hi : Option Rnd} {lo' hi' : Option Operand} {id off l g : Nat} {ty : TypeId} {cs : List SV} (hu : P.underlying t = some (.array n el)) (hn : size? P el = some size)
    (hl : rndOpt? P lo' = some lo) (hh : rndOpt? P hi' = some hi) (hx : AVR ρ (.sc (.ptr id off)) u) (hb : boundsA n n (lo.map (rd e)) (hi.map (rd e)) = some (l, g)) (hg : H.get id = some (.cells ty .own cs)) (hln : l ≠ n) :
    Gives P w0 ρ H w (Instr.sliceAt t u (lo'.map a.eval) (hi'.map a.eval) none) (.sc (.slice id (off + l * size) (g - l) (n - l))) H := by
  obtain ⟨tg, ht, rfl⟩ := hx
  have hr := cx.rel
  obtain ⟨b1, b2, b3⟩ := bounds_sound (b := false) (cap' := n) cx hl hh hb (Nat.le_refl _)
  obtain ⟨c, ty', fz, _, _, _, h4⟩ := hr.objs _ _ _ ht hg
  have hex := h4 rfl
  refine ⟨ρ, w, .slice (some (tg.addr (off + l * size))) (g - l) (n - l), ?_, ⟨tg, ht, by rw [hex]; rfl⟩, hr, Ext.refl _ _⟩
  unfold Instr.sliceAt
  rw [bind_ok (run_underlying hu)]
  try dsimp only
  have hs : (Instr.sureAddr (.pointer (some (tg.addr off)))).run P w = .ok (tg.addr off) w := rfl
  rw [bind_ok hs, bind_ok b1]
  try dsimp only
  rw [bind_ok (run_sizeOf hn), if_neg (fun h => hln h.symm), addr_add]
  rfl

theorem next_sound (hr : Rel P w0 ρ H w) {x v : AV} {u : Value} {H' : Heap} (hx : AVR ρ x u) (h : nextA x H = some (v, H')) (ty : TypeId) : Gives P w0 ρ H w (Instr.next u true ty) v H' := by
  unfold nextA at h
  split at h
  · rename_i id
    obtain ⟨tg, ht, rfl⟩ := hx
    split at h
    · rename_i s pos hg
      obtain ⟨o1, o2, o3⟩ := hr.objs _ _ _ ht hg
      have hget : (getObj tg.block).run P w = .ok (.stringIter ⟨s.toArray⟩ pos) w := by
        simp only [getObj, Sem.run, o1]
      have hz : (ByteArray.size ⟨s.toArray⟩) = s.length := by simp [ByteArray.size]
      have ha : tg.addr 0 = ⟨tg.block, 0, none⟩ := by simp [Tgt.addr, o3]
      split at h
      · rename_i hlt
        simp only [Option.some.injEq, Prod.mk.injEq] at h
        obtain ⟨rfl, rfl⟩ := h
        have hlt2 : tg.block < w.heap.size := (Array.getElem?_eq_some_iff.1 o1).1
        have hset : (setObj tg.block (.stringIter ⟨s.toArray⟩ (pos + (Utf8.decode ⟨s.toArray⟩ pos).2))).run P w = .ok () { w with heap := w.heap.setIfInBounds tg.block (.stringIter ⟨s.toArray⟩ (pos + (Utf8.decode ⟨s.toArray⟩ pos).2)) } := by
          simp only [setObj, Sem.run, o1]
        obtain ⟨t1, t2⟩ := hr.turn (w' := { w with heap := w.heap.setIfInBounds tg.block (.stringIter ⟨s.toArray⟩ (pos + (Utf8.decode ⟨s.toArray⟩ pos).2)) }) (o' := .iter s (pos + (Utf8.decode ⟨s.toArray⟩ pos).2)) ht hg trivial
          (fun k hk => by simp [Array.getElem?_setIfInBounds, Ne.symm hk]) (by simp) rfl rfl rfl ⟨by simp [hlt2], o2, o3⟩ o2
        refine ⟨ρ, _, .tuple #[.bool true, goInt pos, .int .i32 (Utf8.decode ⟨s.toArray⟩ pos).1], ?_, ⟨[.bool true, goInt pos, .int .i32 (Utf8.decode ⟨s.toArray⟩ pos).1], rfl, rfl, rfl, rfl, trivial⟩, t1, t2⟩
        unfold Instr.next
        rw [ha]
        refine (bind_ok hget).trans ?_
        try dsimp only
        rw [hz, if_pos hlt, bind_ok hset]
        rfl
      · rename_i hlt
        cases h
        refine ⟨ρ, w, .tuple #[.bool false], ?_, ⟨[.bool false], rfl, rfl, trivial⟩, hr, Ext.refl _ _⟩
        unfold Instr.next
        rw [ha]
        refine (bind_ok hget).trans ?_
        try dsimp only
        rw [hz, if_neg hlt]
        rfl
    · cases h
  · cases h

theorem range_sound (hr : Rel P w0 ρ H w) {t : TypeId} {s : List UInt8} (hu : P.underlying t = some .string) : Gives P w0 ρ H w (Instr.range t (.string ⟨s.toArray⟩)) (.sc (.ptr H.n 0)) (H.push (.iter s 0)) := by
  obtain ⟨n1, n2⟩ := hr.push (w' := { w with heap := w.heap.push (.stringIter ⟨s.toArray⟩ 0) }) (.stringIter ⟨s.toArray⟩ 0) rfl rfl rfl rfl 0 (.iter s 0) (fun ρ' _ => ⟨by simp, hr.below.size, rfl⟩)
  refine ⟨_, _, .pointer (some ⟨w.heap.size, 0, none⟩), ?_, ⟨_, add_self _ _ _, rfl⟩, n1, n2⟩
  unfold Instr.range
  rw [bind_ok (run_underlying hu)]
  rfl

end
end Go.Jx
