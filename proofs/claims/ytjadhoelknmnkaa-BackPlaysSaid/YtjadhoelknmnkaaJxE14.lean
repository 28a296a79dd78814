/- Facts of the seat: its functions as the plain machine has them are the program's; the closed function that each law asks first or last answers true. -/
import Derived.Test.YtjadhoelknmnkaaJxC14
import Derived.Test.YtjadhoelknmnkaaRows
set_option linter.unusedVariables false
namespace Go.Proofs.Ytjadhoelknmnkaa
open Go Go.Jx Go.RowKit Go.ChangeShapes Go.WideShapes Go.ChangeAt

theorem jx_own : ownKnob Try.prog.godebug = none := by kernel_rfl
theorem jx_laidOut : laidOutB Try.prog = true := by kernel_rfl
theorem jx_ext : ExtOk Try.prog jxX := extOk_plain (by kernel_rfl) (by kernel_rfl)
def jxLs : List (Nat × TypeId × List SV) := []
abbrev LaidIn (W : World) : Prop := True
theorem jx_laid (W : World) : LaidOk Try.prog W jxLs := laidOk_nil _ W
theorem jx_known8 : (kRun DD0 20000 (.call 8 [] (HL Try.prog.globals.size jxLs))).map (fun o => o.2.1) = some [.sc (.bool true)] := by kernel_rfl
theorem jx_knows8 {W : World} (hl : LaidOk Try.prog W jxLs) : Calls Try.prog 8 #[] W fun e W' => e = .returned (.bool true) ∧ Below W.heap.size W W' := by
  have hk := jx_known8
  rw [kRun_eq] at hk
  obtain ⟨x, H', hrun⟩ := closed_of_map' hk
  refine (calls_closed' jx_ext (DD0_ok W) hl hrun).mono fun e W' ⟨ρ', u, he, hu, hb⟩ => ⟨?_, hb⟩
  cases hu
  exact he
theorem jx_fun {W : World} (hl : LaidOk Try.prog W jxLs) : FunOk Try.prog W jxX DD := by
  refine withKnown_ok (DD0_ok W) ?_ ?_
  · intro f hf
    simp only [List.mem_cons, List.not_mem_nil, or_false] at hf
    rcases hf with rfl
    · rfl
  · intro f hf w hb
    simp only [List.mem_cons, List.not_mem_nil, or_false] at hf
    rcases hf with rfl
    · exact jx_knows8 (hl.later hb)

theorem jx_read {f : Func} (h : (f.params.toList.all fun t => Try.prog.readableRec t && decide (t < Try.prog.types.size)) = true) : ∀ t ∈ f.params.toList, Try.prog.readableRec t = true ∧ t < Try.prog.types.size := by
  intro t ht
  have := List.all_eq_true.1 h t ht
  rw [Bool.and_eq_true, decide_eq_true_eq] at this
  exact this

/-- A value of each type: zero. -/
noncomputable def zeroV (t : TypeId) : Value := (((Try.prog.info? t).bind (·.zero)).getD (.bool false))
end Go.Proofs.Ytjadhoelknmnkaa
