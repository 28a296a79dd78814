/-
  Memory: append, copy, clear, make, slicing, in the plain machine and in the model.
-/
import Derived.Test.YtfmldkjidfigbaaDoorJxMem2
namespace Go.Jx
open Go Go.RowKit
set_option linter.unusedSimpArgs false
set_option linter.unusedVariables false

section
variable {P : Program} {w0 w : World} {ρ : Rho} {H : Heap} {e : List AV} {a : Act} {X : Exts}

/-- A value, a new state of memory. -/
def Gives (P : Program) (w0 : World) (ρ : Rho) (H : Heap) (w : World) (s : Sem Value) (v : AV) (H' : Heap) : Prop :=
  ∃ ρ' w' u, s.run P w = .ok u w' ∧ AVR ρ' v u ∧ Rel P w0 ρ' H' w' ∧ Ext ρ H ρ' H'
theorem Gives.does {s : Sem Value} {v : AV} {H' : Heap} (h : Gives P w0 ρ H w s v H') : Does P w0 ρ H w (do pure (.value (← s))) v H' :=
  let ⟨_, _, _, h1, h2, h3, h4⟩ := h
  Does.value h1 h2 h3 h4

structure AppendTy (P : Program) (ats : Array TypeId) (st t : TypeId) (size bytes : Nat) (z : List SV) : Prop where
  h0 : ats[0]? = some st
  hst : P.underlying st = some (.slice t)
  hn : size? P t = some size
  hb : bytes? P t = some bytes
  hz : zero? P t = some z
  hzl : z.length = size
  h1 : ∃ xt d, ats[1]? = some xt ∧ P.underlying xt = some d ∧ ∀ k, d ≠ .int k

theorem append_stays {ats : Array TypeId} {ty st t : TypeId} {size bytes : Nat} {z : List SV} (T : AppendTy P ats st t size bytes z) {base : Option Addr} {sLen sCap n : Nat} {ux : Value} {ln : List Value} {w' : World}
    (hl : (Builtin.lenOf ux).run P w = .ok n w) (hcap : sLen + n ≤ sCap) (hf : (Builtin.firstCells size n ux).run P w = .ok ln.toArray w)
    (hs : (match base with | some a => storeCells (a.add (sLen * size)) ln | none => pure () : Sem Unit).run P w = .ok () w') :
    (Builtin.append_ ats ty #[.slice base sLen sCap, ux]).run P w = .ok (.slice base (sLen + n) sCap) w' := by
  obtain ⟨h0, hst, hn, hb, hz, hzl, xt, d, h1, hd, hnot⟩ := T
  unfold Builtin.append_
  rw [h0, show (#[Value.slice base sLen sCap, ux])[0]? = some (.slice base sLen sCap) from rfl, show (#[Value.slice base sLen sCap, ux])[1]? = some ux from rfl]
  try dsimp only
  rw [bind_ok (run_underlying hst)]
  try dsimp only
  rw [bind_ok (run_sizeOf hn), h1]
  try dsimp only
  rw [bind_ok (run_underlying hd)]
  refine (bind_ok (u := false) (w' := w) ?_).trans ?_
  · cases d <;> first | rfl | (exact absurd rfl (hnot _))
  rw [if_neg (by simp), bind_ok hl]
  try dsimp only
  rw [if_pos hcap]
  try dsimp only
  rw [if_pos (by simp), bind_ok hf]
  cases base with
  | none => simp only [Sem.run_pure, Result.ok.injEq, true_and] at hs; subst hs; rfl
  | some ad => dsimp only at hs ⊢; rw [bind_ok hs]; rfl

theorem append_grows {ats : Array TypeId} {ty st t : TypeId} {size bytes : Nat} {z : List SV} (T : AppendTy P ats st t size bytes z) {base : Option Addr} {sLen sCap n : Nat} {ux : Value} {lo ln : List Value}
    (hl : (Builtin.lenOf ux).run P w = .ok n w) (hcap : sCap < sLen + n) (hroom : roomC (sLen + n) sCap bytes = true)
    (hfo : (Builtin.firstCells size sLen (.slice base sLen sCap)).run P { w with drawn := w.drawn + 1 } = .ok lo.toArray { w with drawn := w.drawn + 1 })
    (hfn : (Builtin.firstCells size n ux).run P { w with drawn := w.drawn + 1 } = .ok ln.toArray { w with drawn := w.drawn + 1 }) :
    ∃ (newCap : Nat) (rest : List Value), sLen + n ≤ newCap ∧ rest.length = (newCap - (sLen + n)) * P.cellsOf t ∧
      (Builtin.append_ ats ty #[.slice base sLen sCap, ux]).run P w = .ok (.slice (some ⟨w.heap.size, 0, none⟩) (sLen + n) newCap) { w with drawn := w.drawn + 1, heap := w.heap.push (.cells (lo ++ ln ++ rest).toArray t) } := by
  obtain ⟨h0, hst, hn, hb, hz, hzl, xt, d, h1, hd, hnot⟩ := T
  obtain ⟨i, hi, hib⟩ := run_bytes (w := w) hb
  obtain ⟨i', hi', hib'⟩ := run_bytes (w := { w with drawn := w.drawn + 1 }) hb
  obtain ⟨zv, hzv, hzr⟩ := run_zero (w := { w with drawn := w.drawn + 1 }) hz
  obtain ⟨r1, r2⟩ := room_nextC hroom hcap
  refine ⟨(Question.appendCap (sLen + n) sCap t).cut (w.tape w.drawn (.appendCap (sLen + n) sCap t)), (Builtin.zeroCells zv.cells ((Question.appendCap (sLen + n) sCap t).cut (w.tape w.drawn (.appendCap (sLen + n) sCap t)) - (sLen + n))).toList, ?_, ?_, ?_⟩
  · simp only [Question.cut]; omega
  · have hsz : zv.cells.size = P.cellsOf t := by
      have := (hzr (fun _ => none)).length
      rw [cellsOf_of hn, ← hzl, this]; simp
    simp only [Builtin.zeroCells, Array.toList_map, List.length_map, Array.length_toList, Array.size_range, hsz]
  · unfold Builtin.append_
    rw [h0, show (#[Value.slice base sLen sCap, ux])[0]? = some (.slice base sLen sCap) from rfl, show (#[Value.slice base sLen sCap, ux])[1]? = some ux from rfl]
    try dsimp only
    rw [bind_ok (run_underlying hst)]
    try dsimp only
    rw [bind_ok (run_sizeOf hn), h1]
    try dsimp only
    rw [bind_ok (run_underlying hd)]
    refine (bind_ok (u := false) (w' := w) ?_).trans ?_
    · cases d <;> first | rfl | (exact absurd rfl (hnot _))
    have hnc : ¬ (sLen + n ≤ sCap) := by omega
    have hb0 : ¬ (bytes = 0) := by omega
    rw [if_neg (by simp), bind_ok hl]
    try dsimp only
    rw [if_neg hnc, bind_ok hi]
    try dsimp only
    rw [if_neg (by simp [hib, hb0]), bind_ok hi, if_neg (by rw [hib]; exact r1)]
    try dsimp only
    have hch : (choose (.appendCap (sLen + n) sCap t)).run P w = .ok ((Question.appendCap (sLen + n) sCap t).cut (w.tape w.drawn (.appendCap (sLen + n) sCap t))) { w with drawn := w.drawn + 1 } := by
      rw [run_choose]; rfl
    rw [bind_ok hch, bind_ok hi', bind_ok (run_askRoom _ _ _), bind_ok hfo, if_pos (by simp), bind_ok hfn, bind_ok hzv]
    simp only [newRow, Sem.run_bind, run_newObj, Result.andThen_ok, Sem.run_pure]
    congr 3
    simp

end
end Go.Jx
