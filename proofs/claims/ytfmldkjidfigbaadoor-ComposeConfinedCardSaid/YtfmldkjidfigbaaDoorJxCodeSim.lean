/-
  What the plain machine answers, the model answers: code and calls.
-/
import Derived.Test.YtfmldkjidfigbaaDoorJxDraw4
namespace Go.Jx
open Go Go.RowKit
set_option linter.unusedSimpArgs false
set_option linter.unusedVariables false

section
variable {P : Program} {w0 w : World} {ρ : Rho} {H : Heap} {e : List AV} {a : Act} {X : Exts} {D : Nat → Option MFunc}

theorem ops_normal : ∀ (n : Nat) (l : List MI) (e : List AV) (H : Heap) (x : Ex) (e' : List AV) (H' : Heap), run D n (.ops l e H) = some (x, e', H') → x = .normal := by
  intro n
  induction n with
  | zero => intro l e H x e' H' h; simp [run] at h
  | succ n ih =>
    intro l e H x e' H' h
    cases l with
    | nil => simp only [run, Option.some.injEq, Prod.mk.injEq] at h; exact h.1.symm
    | cons i r =>
      simp only [run] at h
      split at h
      · exact ih _ _ _ _ _ _ h
      · split at h
        · split at h
          · split at h
            · exact ih _ _ _ _ _ _ h
            · cases h
          · cases h
        · split at h
          · exact ih _ _ _ _ _ _ h
          · cases h

theorem all_ok (hX : ExtOk P X) (hD : FunOk P w0 X D) : ∀ n, CodeOk P w0 X D n ∧ LoopOk P w0 X D n ∧ OpsOk P w0 X D n ∧ CallOk P w0 X D n := by
  intro n
  induction n using Nat.strongRecOn with
  | _ n ihAll =>
  cases n with
  | zero => exact ⟨fun _ _ _ _ _ _ h => by simp [run] at h, fun _ _ _ _ _ _ h => by simp [run] at h, fun _ _ _ _ _ _ _ _ h => by simp [run] at h, fun _ _ _ _ _ _ h => by simp [run] at h⟩
  | succ n =>
    obtain ⟨ihC, ihL, ihO, ihF⟩ := ihAll n (Nat.lt_succ_self n)
    have hL : LoopOk P w0 X D (n + 1) := by
      intro C e H x e' H' h ρ w a Q cx hQ
      simp only [run] at h
      split at h
      · rename_i e1 H1 h1
        rw [rounds_succ]
        refine ihC C e H .normal e1 H1 h1 ρ w a _ cx fun ρ1 w1 a1 cx1 ext1 => ?_
        exact ihL C e1 H1 x e' H' h ρ1 w1 a1 Q cx1 fun ρ2 w2 a2 cx2 ext2 => hQ ρ2 w2 a2 cx2 (ext1.trans ext2)
      · rename_i hne
        rw [rounds_succ]
        refine ihC C e H x e' H' h ρ w a _ cx ?_
        refine exOf_then (n := n) (fun hx => ?_) (fun _ => hQ)
        subst hx
        exact absurd h (hne e' H')
    refine ⟨?_, hL, ?_, ?_⟩
    · intro C e H x e' H' h ρ w a Q cx hQ
      cases C with
      | skip =>
        simp only [cCode, run, Option.some.injEq, Prod.mk.injEq] at h
        obtain ⟨rfl, rfl, rfl⟩ := h
        exact wp_skip (hQ _ _ _ cx (Ext.refl _ _))
      | region id ops draw =>
        cases draw with
        | true =>
          simp only [cCode, if_true] at h
          split at h
          · rename_i hmix
            cases hcd : cDraw ops.toList (ops.toList.map (cOper P X ops.toList)) with
            | draw L =>
              rw [hcd] at h
              simp only [run] at h
              exact draw_region (N := n + 1) (Nat.le_succ n) hX hD (fun k hk => (ihAll k hk).2.2.2) hmix hcd h cx hQ
            | bad => rw [hcd] at h; simp [run] at h
            | seq A B =>
              rw [hcd] at h
              unfold cDraw at hcd
              dsimp only at hcd
              split at hcd
              · cases hcd
              · split at hcd
                · rename_i hok
                  simp only [Bool.and_eq_true] at hok
                  cases hcd
                  simp only [run] at h
                  split at h
                  · rename_i e1 H1 h1
                    cases n with
                    | zero => simp [run] at h1
                    | succ n =>
                    simp only [run] at h1 h
                    exact drawF_region (N := n + 1 + 1) (n2 := n) (by omega) hX hD (fun k hk => (ihAll k hk).2.2.2) hmix hok.1 hok.2 h1 h cx hQ
                  · rename_i hne
                    exfalso
                    cases n with
                    | zero => simp [run] at h
                    | succ n =>
                    simp only [run] at h
                    have := ops_normal _ _ _ _ _ _ _ h
                    subst this
                    exact hne e' H' (by simpa only [run] using h)
                · cases hcd
            | _ => unfold cDraw at hcd; dsimp only at hcd; split at hcd <;> first | cases hcd | (split at hcd <;> cases hcd)
          · simp [run] at h
        | false =>
          simp only [cCode, Bool.false_eq_true, if_false, run] at h
          have hl : ops.toList.map (cOper P X ops.toList) = (List.range ops.size).map fun i => cOper P X ops.toList (ops.getD i default) := by
            apply List.ext_getElem?
            intro i
            by_cases hi : i < ops.size
            · simp [hi, Array.getD_eq_getD_getElem?]
            · simp [hi]
          rw [hl] at h
          refine wp_region ?_
          have hx := ops_normal n _ _ _ _ _ _ h
          subst hx
          exact ihO ops (List.range ops.size) (fun i hi => by simpa using hi) e H .normal e' H' h ρ w a Q cx hQ
      | seq A B =>
        simp only [cCode, run] at h
        split at h
        · rename_i e1 H1 h1
          refine wp_seq (ihC A e H .normal e1 H1 h1 ρ w a _ cx fun ρ1 w1 a1 cx1 ext1 => ?_)
          exact ihC B e1 H1 x e' H' h ρ1 w1 a1 Q cx1 fun ρ2 w2 a2 cx2 ext2 => hQ ρ2 w2 a2 cx2 (ext1.trans ext2)
        · rename_i hne
          refine wp_seq (ihC A e H x e' H' h ρ w a _ cx (exOf_then (n := n) (fun hx => ?_) fun _ => hQ))
          subst hx
          exact absurd h (hne e' H')
      | cond c A B =>
        simp only [cCode] at h
        split at h
        · rename_i r hr
          simp only [run] at h
          have hv := rnd_sound cx hr
          split at h
          · rename_i hc
            rw [hc] at hv
            exact wp_cond_true hv (ihC A e H x e' H' h ρ w a Q cx hQ)
          · rename_i hc
            rw [hc] at hv
            exact wp_cond_false hv (ihC B e H x e' H' h ρ w a Q cx hQ)
          · cases h
        · simp [run] at h
      | block id A =>
        simp only [cCode, run] at h
        split at h
        · rename_i j e1 H1 h1
          refine wp_block (ihC A e H (.exit j) e1 H1 h1 ρ w a _ cx fun ρ1 w1 a1 cx1 ext1 => ?_)
          split at h
          · rename_i hj
            simp only [Option.some.injEq, Prod.mk.injEq] at h
            obtain ⟨rfl, rfl, rfl⟩ := h
            simp only [exOf, Exit.inBlock, hj, if_true]
            exact hQ _ _ _ cx1 ext1
          · rename_i hj
            simp only [Option.some.injEq, Prod.mk.injEq] at h
            obtain ⟨rfl, rfl, rfl⟩ := h
            simp only [exOf, Exit.inBlock, hj, if_false]
            exact hQ _ _ _ cx1 ext1
        · rename_i hne
          refine wp_block (ihC A e H x e' H' h ρ w a _ cx fun ρ1 w1 a1 cx1 ext1 => ?_)
          cases x with
          | normal => exact hQ _ _ _ cx1 ext1
          | ret => exact hQ _ _ _ cx1 ext1
          | exit j => exact absurd h (hne j e' H')
      | loop A =>
        exact wp_loop_rounds (n + 1) (hL A e H x e' H' (by simpa only [cCode] using h) ρ w a Q cx hQ)
      | exit id =>
        simp only [cCode, run, Option.some.injEq, Prod.mk.injEq] at h
        obtain ⟨rfl, rfl, rfl⟩ := h
        exact wp_exit (hQ _ _ _ cx (Ext.refl _ _))
      | ret =>
        simp only [cCode, run, Option.some.injEq, Prod.mk.injEq] at h
        obtain ⟨rfl, rfl, rfl⟩ := h
        exact wp_ret (hQ _ _ _ cx (Ext.refl _ _))
      | _ => simp [cCode, run] at h
    · intro ops l hl e H x e' H' h ρ w a Q cx hQ
      cases l with
      | nil =>
        simp only [List.map_nil, run, Option.some.injEq, Prod.mk.injEq] at h
        obtain ⟨rfl, rfl, rfl⟩ := h
        exact hQ _ _ _ cx (Ext.refl _ _)
      | cons i r =>
        have hi : i < ops.size := hl i (by simp)
        have hget : ops[i]? = some (ops.getD i default) := by simp [hi, Array.getD_eq_getD_getElem?]
        have hr : ∀ j ∈ r, j < ops.size := fun j hj => hl j (by simp [hj])
        simp only [List.map_cons, run] at h
        simp only [wpOps, hget]
        generalize ops.getD i default = o at h hget ⊢
        rcases cOper_cases P X ops.toList o with ⟨m, g, hm, hg, hco⟩ | hco
        · rw [hco] at h
          simp only at h
          rw [wanted_eq cx hg]
          split at h
          · rename_i hw
            simp only [hw, Bool.false_eq_true, if_false]
            exact ihO ops r hr _ H x e' H' h ρ w _ Q (cx.put cx.rel (Ext.refl _ _) (AVR.undef ρ) o.dst) hQ
          · rename_i hw
            simp only [hw, if_true]
            left
            split at h
            · rename_i hcall
              split at h
              · rename_i f args hcal
                split at h
                · rename_i x1 v H1 hrun
                  unfold Oper.wp
                  have h0 : X f = 0 := by
                    cases n with
                    | zero => simp [run] at hrun
                    | succ n =>
                      simp only [run] at hrun
                      split at hrun
                      · cases hrun
                      · rename_i md hmd; exact (hD f md hmd).1
                  obtain ⟨vs, hrun2, hvs⟩ := call_enter hX cx hm hcall hcal h0
                  rw [hrun2, Oper.upon_enter]
                  refine (ihF f args H x1 v H1 hrun ρ w vs cx.rel cx.glob hvs).mono ?_
                  rintro en w' ⟨ρ', u, rfl, au, hr', hx'⟩
                  exact ihO ops r hr _ H1 x e' H' h ρ' w' _ Q (cx.put hr' hx' au o.dst) fun ρ2 w2 a2 cx2 ext2 => hQ ρ2 w2 a2 cx2 (hx'.trans ext2)
                · cases h
              · cases h
            · rename_i hcall
              split at h
              · rename_i v H1 hop
                obtain ⟨ρ', w', u, hrun, au, hr', hx'⟩ := op_sim hX cx hm hcall hop
                unfold Oper.wp
                have next := ihO ops r hr _ H1 x e' H' h ρ' w' _ Q (cx.put hr' hx' au o.dst) fun ρ2 w2 a2 cx2 ext2 => hQ ρ2 w2 a2 cx2 (hx'.trans ext2)
                rcases hrun with hrun | ⟨hrun, rfl⟩
                · rw [hrun, Oper.upon_value]; exact next
                · rw [hrun, Oper.upon_skip]; exact next
              · cases h
        · rw [hco] at h
          simp [wantedA, isCall, opA, pureA] at h
    · intro f args H x v H' h ρ w vs hr hg ha
      simp only [run] at h
      split at h
      · cases h
      · rename_i m hm
        obtain ⟨hX0, ⟨fn, c, hf, hb, hcc, hnt, hres⟩ | ⟨rfl, hk⟩⟩ := hD f m hm
        rotate_left
        · cases n with
          | zero => simp [run] at h
          | succ n =>
            simp only [knownM, run] at h
            cases args with
            | cons a1 ar => simp at h
            | nil =>
              cases vs with
              | cons _ _ => exact ha.elim
              | nil =>
                simp only [List.nil_append, List.length_nil, Nat.sub_zero, List.replicate_zero, resultsA, resultsAll, resultA, Option.map_some, Option.map_none, List.getD_cons_zero, Option.some.injEq, Prod.mk.injEq, List.cons.injEq, and_true] at h
                obtain ⟨_, rfl, rfl⟩ := h
                refine (hk w hr.below).mono ?_
                rintro en w' ⟨rfl, hb⟩
                exact ⟨ρ, _, rfl, rfl, hr.later hb, Ext.refl _ _⟩
        have cx : Cx P w0 ρ H w (args ++ List.replicate (m.ntmps - args.length) undefA) { tmps := vs.toArray ++ Array.replicate (fn.ntmps - vs.toArray.size) Go.undef, defers := [] } :=
          ⟨hr, by
            show LR _ _ _
            simp only [Array.toList_append, Array.toList_replicate, List.size_toArray, hnt, ← ha.length]
            exact ha.append (LR.replicate (AVR.undef ρ) _), hg, rfl⟩
        have fin : ∀ (x' : Ex) (e1 : List AV) (H1 : Heap), run D n (.code m.code (args ++ List.replicate (m.ntmps - args.length) undefA) H) = some (x', e1, H1) → (x' = .normal ∨ x' = .ret) → resultsA m.results e1 H1 = some v → H1 = H' → Calls P f vs.toArray w (Left P w0 ρ H v H') := by
          intro x' e1 H1 h1 hx' hr1 hH
          subst hH
          rw [← hcc] at h1
          refine calls_of_wp hf hb (ihC c _ H x' e1 H1 h1 ρ w _ _ cx fun ρ1 w1 a1 cx1 ext1 => ?_)
          obtain ⟨u, hu, au⟩ := result_sound cx1 hres hr1
          rcases hx' with rfl | rfl
          · exact ⟨cx1.nodefer, u, hu, ρ1, u, rfl, au, cx1.rel, ext1⟩
          · exact ⟨cx1.nodefer, u, hu, ρ1, u, rfl, au, cx1.rel, ext1⟩
        split at h
        · rename_i e1 H1 h1
          simp only [Option.map_eq_some_iff, Prod.mk.injEq, List.cons.injEq, and_true] at h
          obtain ⟨v', hv', _, hvv, hH⟩ := h
          subst hvv
          exact fin .normal e1 H1 h1 (.inl rfl) hv' hH
        · rename_i e1 H1 h1
          simp only [Option.map_eq_some_iff, Prod.mk.injEq, List.cons.injEq, and_true] at h
          obtain ⟨v', hv', _, hvv, hH⟩ := h
          subst hvv
          exact fin .ret e1 H1 h1 (.inr rfl) hv' hH
        · cases h

end
end Go.Jx
