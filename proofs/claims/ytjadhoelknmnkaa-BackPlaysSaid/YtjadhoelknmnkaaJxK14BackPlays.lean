/- BackPlays: what a back has and answers is the document's, act by act. -/
import Derived.Test.YtjadhoelknmnkaaJxW14MD
import Derived.ChangeCalls
set_option linter.unusedVariables false
namespace Go.Proofs.Ytjadhoelknmnkaa
open Go Go.Jx Go.RowKit Go.ChangeShapes Go.WideShapes Go.ChangeAt

set_option maxRecDepth 100000 in
theorem backPlays_lifted (os : Os) (started : os.Started) (H : Type) (enc : TypeId × Value → H) :
    ReturnsInHanded {} Try.checked os 5 .any (Rows.backPlaysSpec.pre6 enc Try.prog Try.f5 Rows.backPlaysRow.domain false) (Rows.backPlaysSpec.post enc Try.prog Try.f5 false true false false) := by
  refine returnsInHanded_of_change (C := Try.checked) jx_own started (by kernel_rfl) Try.func5
    (ChangeSpec.witness6 (enc := enc) (C := Try.checked) false ⟨#[], #[zeroV 3, zeroV 22, zeroV 3], []⟩ 8 (by kernel_rfl) (by kernel_rfl) (by kernel_rfl) (by kernel_rfl)) ?_
  intro W base args ds gs before hval0 hW hcnd _
  have hl := jx_laid W
  obtain ⟨p, q, hA, _⟩ := id hW
  have hA' : DataW.TrodAll enc Try.prog W 0 (fun _ => true) true [3, 22, 3] args.toList ds p := hA
  have hlen := (trodAll_length hA').2
  refine (calls_law jx_ext (jx_fun hl) hl (shs := [(false, [.int .i64]), (false, [.slice 3 1 [.int .i64]]), (false, [.int .i64])]) (by kernel_rfl) hA' (fun j t v ht hv => hval0 j t v (by rw [← Array.getElem?_toList]; exact ht) (by rw [← Array.getElem?_toList]; exact hv)) (fun H avs hwf hs ho => ?_)).mono ?_
  · obtain ⟨n, x, vs, H', hr, rfl⟩ := Go.Jx.W.out (walk_backPlays H avs hwf hs ho)
    exact ⟨n, x, H', hr⟩
  rintro e W' ⟨he, hb⟩
  refine ⟨_, he, ?_⟩
  exact law_post (bt := 4) jx_laidOut (jx_read (by kernel_rfl)) hW rfl (by match ds, hlen with | [d0, d1, d2], _ => rfl) rfl (by kernel_rfl) hb

theorem backPlays_holds : Rows.BackPlaysSaid :=
  OpenClaim.holds_of_wide 5 Try.f5 rfl rfl rfl rfl rfl rfl rfl ⟨rfl, rfl, rfl, rfl, rfl⟩ rfl rfl rfl rfl rfl (by kernel_rfl) Try.func5 (by kernel_rfl)
    (of_decide_eq_true (by kernel_rfl)) (by unfold Func.isWrapper; first | (rw [if_pos (by decide +kernel)]; kernel_rfl) | (rw [if_neg (by decide +kernel)]; exact ⟨rfl, rfl⟩))
    (fun os started H enc _ => backPlays_lifted os started H enc)
end Go.Proofs.Ytjadhoelknmnkaa
