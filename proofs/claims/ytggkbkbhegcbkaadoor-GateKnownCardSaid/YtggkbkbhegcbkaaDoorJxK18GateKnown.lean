/- The law GateKnown. -/
import Derived.Test.YtggkbkbhegcbkaaDoorJxM18I
import Derived.ChangeCalls
import Derived.Test.YtggkbkbhegcbkaaDoorCards
import Derived.Test.YtggkbkbhegcbkaaDoorTie
import Derived.SevenTiedAt
set_option linter.unusedVariables false
namespace Go.Proofs.YtggkbkbhegcbkaaDoor
open Go Go.Jx Go.RowKit Go.ChangeShapes Go.WideShapes Go.ChangeAt

set_option maxRecDepth 100000 in
theorem gateKnown_lifted (os : Os) (started : os.Started) (H : Type) (enc : TypeId × Value → H) :
    ReturnsInHanded {} Tryd.checked os 5 .any (fun w args => (Rows.gateKnownSpec.pre enc Tryd.prog Tryd.f5 [] false w args ∧ laidMetH Tryd.prog Rows.gateKnownRow.laid w) ∧ sizedMet enc Tryd.prog Tryd.f5 (OpenSpec.ofChange Rows.gateKnownSpec) false w args) (Rows.gateKnownSpec.post enc Tryd.prog Tryd.f5 false true false false) := by
  refine returnsInHanded_of_change_and (C := Tryd.checked) (X := fun w _ => laidMetH Tryd.prog Rows.gateKnownRow.laid w) (fun _ _ _ hh h => h.of_heap hh) jx_own started (by kernel_rfl) Tryd.func5
    (ChangeSpec.witness_at (enc := enc) (C := Tryd.checked) (os := os) (X := fun w _ => laidMetH Tryd.prog Rows.gateKnownRow.laid w) false (laidWorld os) #[] 8 rfl (by kernel_rfl) (by kernel_rfl) (by kernel_rfl) (by kernel_rfl) (by kernel_rfl) (laidWorld_met os _)) ?_
  intro W base args ds gs before hval0 hW hcnd _ hL _
  have hl := jx_laid hL
  obtain ⟨p, q, hA, _⟩ := id hW
  have hA' : DataW.TrodAll enc Tryd.prog W 0 (fun _ => true) true [] args.toList ds p := hA
  have hlen := (trodAll_length hA').2
  obtain ⟨hargs, rfl, rfl⟩ := trodAll_none hA'
  subst hargs
  obtain ⟨n, x, vs, H', hrun, rfl⟩ := Go.Jx.W.out (gateKnown_w)
  refine (calls_closed' jx_ext (jx_fun hl) hl hrun).mono ?_
  rintro e W' ⟨ρ', u, he, hu, hb⟩
  cases hu
  refine ⟨_, he, ?_⟩
  exact law_post (bt := 4) jx_laidOut (jx_read (by kernel_rfl)) hW rfl rfl rfl (by kernel_rfl) hb

theorem gateKnown_holds_row : Rows.GateKnownSaid :=
  OpenClaim.holds_of_wide 5 Tryd.f5 rfl rfl rfl rfl rfl rfl rfl ⟨rfl, rfl, rfl, rfl, rfl⟩ rfl rfl rfl rfl rfl (by kernel_rfl) Tryd.func5 (by kernel_rfl)
    (of_decide_eq_true (by kernel_rfl)) (by unfold Func.isWrapper; first | (rw [if_pos (by decide +kernel)]; kernel_rfl) | (rw [if_neg (by decide +kernel)]; exact ⟨rfl, rfl⟩))
    (fun os started H enc _ => gateKnown_lifted os started H enc)

theorem gateKnown_holds : Rows.GateKnownCardSaid :=
  Claim7.holds_tied_plain_at .later [] _ true _ _
    gateKnown_holds_row (fun _ h => by cases h) (by kernel_rfl) (fun _ h => by cases h) gateKnown_row_tie rfl ⟨rfl, rfl⟩ (by kernel_rfl) rfl
    (fun f fn hf hfn => by
      obtain rfl : f = 5 := Option.some.inj ((show Tryd.prog.funcNamed Rows.gateKnownRow.func = some 5 by kernel_rfl).symm.trans hf) |>.symm
      obtain rfl : fn = Tryd.f5 := (Option.some.inj (Tryd.func5.symm.trans hfn)).symm
      exact ⟨by kernel_rfl, fun j t ht => by
        have h1 : (Tryd.f5.params.toList.all fun t => !Tryd.prog.wantsStandIn t) = true := by kernel_rfl
        have h2 : t ∈ Tryd.f5.params.toList := List.mem_of_getElem? (by rw [Array.getElem?_toList]; exact ht)
        have h3 := List.all_eq_true.1 h1 t h2
        simp only [Bool.not_eq_true'] at h3
        exact h3⟩)
    (by kernel_rfl)
end Go.Proofs.YtggkbkbhegcbkaaDoor
