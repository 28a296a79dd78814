/- StatesNames: the numbers of states and actions, what begins and what ends: the closed law answers true, whatever the world it is called in. -/
import Derived.Test.YtdaeglcplpmlpaaJxClose
import Derived.Test.YtdaeglcplpmlpaaJxW06b
import Derived.Test.YtdaeglcplpmlpaaRows
namespace Go.Proofs.Ytdaeglcplpmlpaa
open Go Go.Jx Go.RowKit Go.ChangeShapes Go.WideShapes Go.ChangeAt

theorem jx_own : ownKnob Try.prog.godebug = none := by kernel_rfl
theorem jx_laidOut : laidOutB Try.prog = true := by kernel_rfl

theorem jx_ext : ExtOk Try.prog jxX := extOk_plain (by kernel_rfl) (by kernel_rfl)

set_option maxRecDepth 100000 in
theorem statesNames_lifted (os : Os) (started : os.Started) (H : Type) (enc : TypeId × Value → H) :
    ReturnsInHanded {} Try.checked os 4 .any (Rows.statesNamesSpec.pre6 enc Try.prog Try.f4 Rows.statesNamesRow.domain false) (Rows.statesNamesSpec.post enc Try.prog Try.f4 false true false false) := by
  refine returnsInHanded_of_change (C := Try.checked) jx_own started (by kernel_rfl) Try.func4
    (ChangeSpec.witness6 (enc := enc) (C := Try.checked) false ⟨#[], #[], []⟩ 8 (by kernel_rfl) (by kernel_rfl) (by kernel_rfl) (by kernel_rfl)) ?_
  intro W base args ds gs before hval0 hW hcnd _
  obtain ⟨p, q, hA, _⟩ := id hW
  obtain ⟨hargs, rfl, rfl⟩ := trodAll_none (show DataW.TrodAll enc Try.prog W 0 (fun _ => true) true [] args.toList ds p from hA)
  subst hargs
  obtain ⟨n, x, vs, H', hrun, v, rfl, rfl, rfl⟩ := Go.Jx.W.out (w4 (H0 Try.prog.globals.size))
  unfold DD at hrun
  refine (calls_closed jx_ext n hrun W).mono fun e W' ⟨ρ', u, he, hu, hb⟩ => ⟨u, he, ?_⟩
  cases hu
  exact law_post (bt := 4) jx_laidOut (by intro t ht; cases ht) hW rfl rfl rfl (by kernel_rfl) hb

theorem statesNames_holds : Rows.StatesNamesSaid :=
  OpenClaim.holds_of_wide 4 Try.f4 rfl rfl rfl rfl rfl rfl rfl ⟨rfl, rfl, rfl, rfl, rfl⟩ rfl rfl rfl rfl rfl (by kernel_rfl) Try.func4 (by kernel_rfl)
    (of_decide_eq_true (by kernel_rfl)) (by unfold Func.isWrapper; first | (rw [if_pos (by decide +kernel)]; kernel_rfl) | (rw [if_neg (by decide +kernel)]; exact ⟨rfl, rfl⟩))
    (fun os started H enc _ => statesNames_lifted os started H enc)

end Go.Proofs.Ytdaeglcplpmlpaa
