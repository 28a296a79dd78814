/- DecodeKnown: the chapter's examples of decode are as the chapter says: the closed law answers true, whatever the world it is called in. -/
import Derived.Test.YtcgfcnbcfcllpaaJxClose
import Derived.Test.YtcgfcnbcfcllpaaRows
namespace Go.Proofs.Ytcgfcnbcfcllpaa
open Go Go.Jx Go.RowKit Go.ChangeShapes Go.WideShapes Go.ChangeAt

theorem jx_own : ownKnob Try.prog.godebug = none := by kernel_rfl
theorem jx_laidOut : laidOutB Try.prog = true := by kernel_rfl
def jxL : List Nat := [9, 9, 0, 0, 0, 0, 0, 0, 0, 0, 0, 0, 0, 0, 0, 0, 0, 0, 0, 0, 0, 0]
def jxX : Exts := exts jxL
theorem jx_known : (run (mfun Try.prog jxX) 20000 (.call 3 [] (H0 Try.prog.globals.size))).map (fun o => o.2.1) = some [.sc (.bool true)] := by kernel_rfl

theorem jx_ext : ExtOk Try.prog jxX := extOk_plain (by kernel_rfl) (by kernel_rfl)

set_option maxRecDepth 100000 in
theorem decodeKnown_lifted (os : Os) (started : os.Started) (H : Type) (enc : TypeId × Value → H) :
    ReturnsInHanded {} Try.checked os 3 .any (Rows.decodeKnownSpec.pre6 enc Try.prog Try.f3 Rows.decodeKnownRow.domain false) (Rows.decodeKnownSpec.post enc Try.prog Try.f3 false true false false) := by
  refine returnsInHanded_of_change (C := Try.checked) jx_own started (by kernel_rfl) Try.func3
    (ChangeSpec.witness6 (enc := enc) (C := Try.checked) false ⟨#[], #[], []⟩ 8 (by kernel_rfl) (by kernel_rfl) (by kernel_rfl) (by kernel_rfl)) ?_
  intro W base args ds gs before hval0 hW hcnd _
  obtain ⟨p, q, hA, _⟩ := id hW
  obtain ⟨hargs, rfl, rfl⟩ := trodAll_none (show DataW.TrodAll enc Try.prog W 0 (fun _ => true) true [] args.toList ds p from hA)
  subst hargs
  obtain ⟨x, H', hrun⟩ := closed_of_map jx_known
  refine (calls_closed jx_ext 20000 hrun W).mono fun e W' ⟨ρ', u, he, hu, hb⟩ => ⟨u, he, ?_⟩
  cases hu
  exact law_post (bt := 4) jx_laidOut (by intro t ht; cases ht) hW rfl rfl rfl (by kernel_rfl) hb

theorem decodeKnown_holds : Rows.DecodeKnownSaid :=
  OpenClaim.holds_of_wide 3 Try.f3 rfl rfl rfl rfl rfl rfl rfl ⟨rfl, rfl, rfl, rfl, rfl⟩ rfl rfl rfl rfl rfl (by kernel_rfl) Try.func3 (by kernel_rfl)
    (of_decide_eq_true (by kernel_rfl)) (by unfold Func.isWrapper; first | (rw [if_pos (by decide +kernel)]; kernel_rfl) | (rw [if_neg (by decide +kernel)]; exact ⟨rfl, rfl⟩))
    (fun os started H enc _ => decodeKnown_lifted os started H enc)

end Go.Proofs.Ytcgfcnbcfcllpaa
