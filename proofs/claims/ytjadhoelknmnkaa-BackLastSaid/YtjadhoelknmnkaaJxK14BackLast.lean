/- BackLast: what a back has are the last ones put. -/
import Derived.Test.YtjadhoelknmnkaaJxW14MA
import Derived.ChangeCalls
set_option linter.unusedVariables false
namespace Go.Proofs.Ytjadhoelknmnkaa
open Go Go.Jx Go.RowKit Go.ChangeShapes Go.WideShapes Go.ChangeAt

set_option maxRecDepth 100000 in
theorem backLast_lifted (os : Os) (started : os.Started) (H : Type) (enc : TypeId × Value → H) :
    ReturnsInHanded {} Try.checked os 7 .any (Rows.backLastSpec.pre6 enc Try.prog Try.f7 Rows.backLastRow.domain false) (Rows.backLastSpec.post enc Try.prog Try.f7 false true false false) := by
  refine returnsInHanded_of_change (C := Try.checked) jx_own started (by kernel_rfl) Try.func7
    (ChangeSpec.witness6 (enc := enc) (C := Try.checked) false ⟨#[], #[zeroV 3, zeroV 22, zeroV 22], []⟩ 8 (by kernel_rfl) (by kernel_rfl) (by kernel_rfl) (by kernel_rfl)) ?_
  intro W base args ds gs before hval0 hW hcnd _
  have hl := jx_laid W
  obtain ⟨p, q, hA, _⟩ := id hW
  have hA' : DataW.TrodAll enc Try.prog W 0 (fun _ => true) true [3, 22, 22] args.toList ds p := hA
  have hlen := (trodAll_length hA').2
  refine (calls_law jx_ext (jx_fun hl) hl (shs := [(false, [.int .i64]), (false, [.slice 3 1 [.int .i64]]), (false, [.slice 3 1 [.int .i64]])]) (by kernel_rfl) hA' (fun j t v ht hv => hval0 j t v (by rw [← Array.getElem?_toList]; exact ht) (by rw [← Array.getElem?_toList]; exact hv)) (fun H avs hwf hs ho => ?_)).mono ?_
  · obtain ⟨n, x, vs, H', hr, rfl⟩ := Go.Jx.W.out (walk_backLast H avs hwf hs ho)
    exact ⟨n, x, H', hr⟩
  rintro e W' ⟨he, hb⟩
  refine ⟨_, he, ?_⟩
  exact law_post (bt := 4) jx_laidOut (jx_read (by kernel_rfl)) hW rfl (by match ds, hlen with | [d0, d1, d2], _ => rfl) rfl (by kernel_rfl) hb

theorem backLast_holds : Rows.BackLastSaid :=
  OpenClaim.holds_of_wide 7 Try.f7 rfl rfl rfl rfl rfl rfl rfl ⟨rfl, rfl, rfl, rfl, rfl⟩ rfl rfl rfl rfl rfl (by kernel_rfl) Try.func7 (by kernel_rfl)
    (of_decide_eq_true (by kernel_rfl)) (by unfold Func.isWrapper; first | (rw [if_pos (by decide +kernel)]; kernel_rfl) | (rw [if_neg (by decide +kernel)]; exact ⟨rfl, rfl⟩))
    (fun os started H enc _ => backLast_lifted os started H enc)
end Go.Proofs.Ytjadhoelknmnkaa
