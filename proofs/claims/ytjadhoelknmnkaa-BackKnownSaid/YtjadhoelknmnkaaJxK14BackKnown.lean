/- BackKnown: the chapter's examples. -/
import Derived.Test.YtjadhoelknmnkaaJxE14
import Derived.ChangeCalls
set_option linter.unusedVariables false
namespace Go.Proofs.Ytjadhoelknmnkaa
open Go Go.Jx Go.RowKit Go.ChangeShapes Go.WideShapes Go.ChangeAt

theorem run_backKnown : (kRun DD 20000 (.call 4 [] (HL Try.prog.globals.size jxLs))).map (fun o => o.2.1) = some [.sc (.bool true)] := by kernel_rfl
set_option maxRecDepth 100000 in
theorem backKnown_lifted (os : Os) (started : os.Started) (H : Type) (enc : TypeId × Value → H) :
    ReturnsInHanded {} Try.checked os 4 .any (Rows.backKnownSpec.pre6 enc Try.prog Try.f4 Rows.backKnownRow.domain false) (Rows.backKnownSpec.post enc Try.prog Try.f4 false true false false) := by
  refine returnsInHanded_of_change (C := Try.checked) jx_own started (by kernel_rfl) Try.func4
    (ChangeSpec.witness6 (enc := enc) (C := Try.checked) false ⟨#[], #[], []⟩ 8 (by kernel_rfl) (by kernel_rfl) (by kernel_rfl) (by kernel_rfl)) ?_
  intro W base args ds gs before hval0 hW hcnd _
  have hl := jx_laid W
  obtain ⟨p, q, hA, _⟩ := id hW
  have hA' : DataW.TrodAll enc Try.prog W 0 (fun _ => true) true [] args.toList ds p := hA
  have hlen := (trodAll_length hA').2
  obtain ⟨hargs, rfl, rfl⟩ := trodAll_none hA'
  subst hargs
  have hk := run_backKnown
  rw [kRun_eq] at hk
  obtain ⟨x, H', hrun⟩ := closed_of_map' hk
  refine (calls_closed' jx_ext (jx_fun hl) hl hrun).mono ?_
  rintro e W' ⟨ρ', u, he, hu, hb⟩
  cases hu
  refine ⟨_, he, ?_⟩
  exact law_post (bt := 4) jx_laidOut (jx_read (by kernel_rfl)) hW rfl rfl rfl (by kernel_rfl) hb

theorem backKnown_holds : Rows.BackKnownSaid :=
  OpenClaim.holds_of_wide 4 Try.f4 rfl rfl rfl rfl rfl rfl rfl ⟨rfl, rfl, rfl, rfl, rfl⟩ rfl rfl rfl rfl rfl (by kernel_rfl) Try.func4 (by kernel_rfl)
    (of_decide_eq_true (by kernel_rfl)) (by unfold Func.isWrapper; first | (rw [if_pos (by decide +kernel)]; kernel_rfl) | (rw [if_neg (by decide +kernel)]; exact ⟨rfl, rfl⟩))
    (fun os started H enc _ => backKnown_lifted os started H enc)
end Go.Proofs.Ytjadhoelknmnkaa
