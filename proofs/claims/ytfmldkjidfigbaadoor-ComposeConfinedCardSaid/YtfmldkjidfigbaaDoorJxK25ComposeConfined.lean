/- ComposeConfined: each row of a matrix is whole; whatever other lines a part has, no cell outside its rectangle turns; of a part that is not shown none at all. -/
import Derived.Test.YtfmldkjidfigbaaDoorJxM25L
import Derived.ChangeCalls
import Derived.Test.YtfmldkjidfigbaaDoorCards
import Derived.Test.YtfmldkjidfigbaaDoorTie
import Derived.SevenTiedAt
set_option linter.unusedVariables false
namespace Go.Proofs.YtfmldkjidfigbaaDoor
open Go Go.Jx Go.RowKit Go.ChangeShapes Go.WideShapes Go.ChangeAt

set_option maxRecDepth 100000 in
theorem composeConfined_lifted (os : Os) (started : os.Started) (H : Type) (enc : TypeId × Value → H) :
    ReturnsInHanded {} Tryd.checked os 5 .any (fun w args => (Rows.composeConfinedSpec.pre enc Tryd.prog Tryd.f5 [] false w args ∧ laidMetH Tryd.prog Rows.composeConfinedRow.laid w) ∧ sizedMet enc Tryd.prog Tryd.f5 (OpenSpec.ofChange Rows.composeConfinedSpec) false w args) (Rows.composeConfinedSpec.post enc Tryd.prog Tryd.f5 false true false false) := by
  refine returnsInHanded_of_change_and (C := Tryd.checked) (X := fun w _ => laidMetH Tryd.prog Rows.composeConfinedRow.laid w) (fun _ _ _ hh h => h.of_heap hh) jx_own started (by kernel_rfl) Tryd.func5
    (ChangeSpec.witness_at (enc := enc) (C := Tryd.checked) (os := os) (X := fun w _ => laidMetH Tryd.prog Rows.composeConfinedRow.laid w) false (laidWorld os) #[zeroV 25, zeroV 5, zeroV 38] 8 rfl (by kernel_rfl) (by kernel_rfl) (by kernel_rfl) (by kernel_rfl) (by kernel_rfl) (laidWorld_met os _)) ?_
  intro W base args ds gs before hval0 hW hcnd hwt hL _
  have hl := jx_laid hL
  obtain ⟨p, q, hA, _⟩ := id hW
  have hA' : DataW.TrodAll enc Tryd.prog W 0 (fun _ => true) true [25, 5, 38] args.toList ds p := hA
  have hlen := (trodAll_length hA').2
  have hwt2 : (DataW.weightsEach Tryd.prog [25, 5, 38] ds).all (· ≤ reachBytes) = true := weightsEach_append (by exact hlen) hwt
  refine (calls_law2 jx_ext (jx_fun hl) hl (shs := [(true, [.int .i64, .int .i64, .slice 40 6 [.int .i64, .int .i64, .int .i64, .int .i64, .bool, .slice 35 1 [.slice 34 7 [.int .i32, .int .u8, .int .u16, .int .u8, .int .u32, .int .u8, .int .u32]]], .slice 37 4 [.int .i64, .int .i64, .int .i64, .int .i64], .str, .int .i64, .int .i64, .bool]), (false, [.int .u8]), (false, [.slice 35 1 [.slice 34 7 [.int .i32, .int .u8, .int .u16, .int .u8, .int .u32, .int .u8, .int .u32]]])]) (by kernel_rfl) hA' (fun j t v ht hv => hval0 j t v (by rw [← Array.getElem?_toList]; exact ht) (by rw [← Array.getElem?_toList]; exact hv)) hwt2 (fun H avs hwf hs ho => ?_)).mono ?_
  · obtain ⟨n, x, vs, H', hr, rfl⟩ := Go.Jx.W.out (walk_composeConfined H avs hwf hs ho)
    exact ⟨n, x, H', hr⟩
  rintro e W' ⟨he, hb⟩
  refine ⟨_, he, ?_⟩
  exact law_post (bt := 4) jx_laidOut (jx_read (by kernel_rfl)) hW rfl (by match ds, hlen with | [d0, d1, d2], _ => rfl) rfl (by kernel_rfl) hb

theorem composeConfined_holds_row : Rows.ComposeConfinedSaid :=
  OpenClaim.holds_of_wide 5 Tryd.f5 rfl rfl rfl rfl rfl rfl rfl ⟨rfl, rfl, rfl, rfl, rfl⟩ rfl rfl rfl rfl rfl (by kernel_rfl) Tryd.func5 (by kernel_rfl)
    (of_decide_eq_true (by kernel_rfl)) (by unfold Func.isWrapper; first | (rw [if_pos (by decide +kernel)]; kernel_rfl) | (rw [if_neg (by decide +kernel)]; exact ⟨rfl, rfl⟩))
    (fun os started H enc _ => composeConfined_lifted os started H enc)

theorem composeConfined_holds : Rows.ComposeConfinedCardSaid :=
  Claim7.holds_tied_plain_at .later [] _ true _ _
    composeConfined_holds_row (fun _ h => by cases h) (by kernel_rfl) (fun _ h => by cases h) composeConfined_row_tie rfl ⟨rfl, rfl⟩ (by kernel_rfl) rfl
    (fun f fn hf hfn => by
      obtain rfl : f = 5 := Option.some.inj ((show Tryd.prog.funcNamed Rows.composeConfinedRow.func = some 5 by kernel_rfl).symm.trans hf) |>.symm
      obtain rfl : fn = Tryd.f5 := (Option.some.inj (Tryd.func5.symm.trans hfn)).symm
      exact ⟨by kernel_rfl, fun j t ht => by
        have h1 : (Tryd.f5.params.toList.all fun t => !Tryd.prog.wantsStandIn t) = true := by kernel_rfl
        have h2 : t ∈ Tryd.f5.params.toList := List.mem_of_getElem? (by rw [Array.getElem?_toList]; exact ht)
        have h3 := List.all_eq_true.1 h1 t h2
        simp only [Bool.not_eq_true'] at h3
        exact h3⟩)
    (by kernel_rfl)
end Go.Proofs.YtfmldkjidfigbaaDoor
