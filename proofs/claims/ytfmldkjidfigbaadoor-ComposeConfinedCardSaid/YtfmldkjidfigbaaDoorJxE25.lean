/- Facts of the seat: its functions as the plain machine has them are the program's; the closed function that each law asks first or last answers true. -/
import Derived.Test.YtfmldkjidfigbaaDoorJxC25
import Derived.Test.YtfmldkjidfigbaaDoorRows
import Derived.MakeChecks
import Derived.LaidLaws
import Derived.Laws.Externs
set_option linter.unusedVariables false
namespace Go.Proofs.YtfmldkjidfigbaaDoor
open Go Go.Jx Go.RowKit Go.ChangeShapes Go.WideShapes Go.ChangeAt

theorem jx_own : ownKnob Tryd.prog.godebug = none := by kernel_rfl
theorem jx_laidOut : laidOutB Tryd.prog = true := by kernel_rfl
theorem jx_ext : ExtOk Tryd.prog jxX := extOk_plain (by kernel_rfl) (by kernel_rfl)
noncomputable def jxLs : List (Nat × TypeId × List SV) := (laidAt Tryd.prog Rows.composeTidiesRow.laid).getD []
theorem jx_laidAt : laidAt Tryd.prog Rows.composeTidiesRow.laid = some jxLs := by kernel_rfl
theorem jx_laid {W : World} (h : laidMetH Tryd.prog Rows.composeTidiesRow.laid W) : LaidOk Tryd.prog W jxLs :=
  laidOk_of (by rw [← MakeChecks.laidMetH_plain _ _ _ (by kernel_rfl)]; exact h) jx_laidAt
theorem jx_known9 : (kRun DD0 20000 (.call 9 [] (HL Tryd.prog.globals.size jxLs))).map (fun o => o.2.1) = some [.sc (.bool true)] := by kernel_rfl
theorem jx_knows9 {W : World} (hl : LaidOk Tryd.prog W jxLs) : Calls Tryd.prog 9 #[] W fun e W' => e = .returned (.bool true) ∧ Below W.heap.size W W' := by
  have hk := jx_known9
  rw [kRun_eq] at hk
  obtain ⟨x, H', hrun⟩ := closed_of_map' hk
  refine (calls_closed' jx_ext (DD0_ok W) hl hrun).mono fun e W' ⟨ρ', u, he, hu, hb⟩ => ⟨?_, hb⟩
  cases hu
  exact he
theorem jx_fun {W : World} (hl : LaidOk Tryd.prog W jxLs) : FunOk Tryd.prog W jxX DD := by
  refine withKnown_ok (DD0_ok W) ?_ ?_
  · intro f hf
    simp only [List.mem_cons, List.not_mem_nil, or_false] at hf
    rcases hf with rfl
    · rfl
  · intro f hf w hb
    simp only [List.mem_cons, List.not_mem_nil, or_false] at hf
    rcases hf with rfl
    · exact jx_knows9 (hl.later hb)

theorem jx_read {f : Func} (h : (f.params.toList.all fun t => Tryd.prog.readableRec t && decide (t < Tryd.prog.types.size)) = true) : ∀ t ∈ f.params.toList, Tryd.prog.readableRec t = true ∧ t < Tryd.prog.types.size := by
  intro t ht
  have := List.all_eq_true.1 h t ht
  rw [Bool.and_eq_true, decide_eq_true_eq] at this
  exact this

/-- A value of each type: zero. -/
noncomputable def zeroV (t : TypeId) : Value := (((Tryd.prog.info? t).bind (·.zero)).getD (.bool false))

mutual
def valsOf : DataW Unit → List Value
  | .lit (.bool b) => [.bool b]
  | .lit (.int k n) => [.int k n]
  | .agg ps => valsAll ps
  | _ => []
def valsAll : List (DataW Unit) → List Value
  | [] => []
  | d :: r => valsOf d ++ valsAll r
end
noncomputable def layWorld : List (String × DataW Unit) → World → World
  | [], w => w
  | (n, d) :: r, w => layWorld r { w with heap := w.heap.modify ((Tryd.prog.globalNamed n).getD 0) fun
      | .cells _ t frozen => .cells (valsOf d).toArray t frozen
      | o => o }
/-- A world that meets the condition: the settled one, with the listed variables' cells laid. -/
noncomputable def laidWorld (os : Os) : World := layWorld Rows.composeTidiesRow.laid (World.holding Tryd.prog os ⟨#[], #[], []⟩)
theorem laidWorld_met (os : Os) (args : Array Value) : laidMetH Tryd.prog Rows.composeTidiesRow.laid ((laidWorld os).forCall (fun _ _ => 0) ⟨#[], args, []⟩).memory := by
  rw [MakeChecks.laidMetH_plain _ _ _ (by kernel_rfl)]
  exact laidMet_of_run' 8 (by kernel_rfl) (by kernel_rfl)
end Go.Proofs.YtfmldkjidfigbaaDoor
