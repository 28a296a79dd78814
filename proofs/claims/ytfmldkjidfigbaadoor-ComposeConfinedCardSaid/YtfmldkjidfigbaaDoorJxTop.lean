/-
  The plain machine's functions, straight from the model's program.
-/
import Derived.Test.YtfmldkjidfigbaaDoorJxCodeSim
namespace Go.Jx
open Go Go.RowKit

/-- A function of the program, as the plain machine has it. -/
def mfun (P : Program) (X : Exts) (f : Nat) : Option MFunc :=
  if X f = 0 then
    match P.funcs[f]? with
    | some fn =>
      (match fn.body, cRess P fn.results.toList with
      | some c, some rs => some ⟨fn.ntmps, rs, cCode P X c⟩
      | _, _ => none)
    | none => none
  else none

theorem mfun_ok (P : Program) (w0 : World) (X : Exts) : FunOk P w0 X (mfun P X) := by
  intro f m h
  unfold mfun at h
  split at h
  · rename_i h0
    split at h
    · rename_i fn hf
      split at h
      · rename_i c rs hc hr
        cases h
        exact ⟨h0, .inl ⟨fn, c, hf, hc, rfl, rfl, hr⟩⟩
      · cases h
    · cases h
  · cases h

/-- More fuel, the same answer. -/
theorem run_mono (D : Nat → Option MFunc) : ∀ (n : Nat) (job : Job) (out : Out), run D n job = some out → run D (n + 1) job = some out := by
  intro n
  induction n with
  | zero => intro job out h; simp [run] at h
  | succ n ih =>
    intro job out h
    cases job with
    | code c e H =>
      cases c with
      | bad => simp [run] at h
      | skip => simpa [run] using h
      | known => simpa [run] using h
      | ops l => rw [run] at h ⊢; exact ih _ _ h
      | draw l => rw [run] at h ⊢; exact ih _ _ h
      | exit id => simpa [run] using h
      | ret => simpa [run] using h
      | seq a b =>
        rw [run] at h ⊢
        split at h
        · rename_i e1 H1 h1
          rw [ih _ _ h1]; exact ih _ _ h
        · rename_i hne
          have h2 := ih _ _ h
          rw [h2]
          split
          · rename_i e1 H1 h3
            simp only [Option.some.injEq] at h3
            subst h3
            exact absurd h (hne e1 H1)
          · rfl
      | cond c a b =>
        rw [run] at h ⊢
        split at h
        · exact ih _ _ h
        · exact ih _ _ h
        · cases h
      | block id a =>
        rw [run] at h ⊢
        split at h
        · rename_i j e1 H1 h1
          rw [ih _ _ h1]; exact h
        · rename_i hne
          have h2 := ih _ _ h
          rw [h2]
          split
          · rename_i j e1 H1 h3
            simp only [Option.some.injEq] at h3
            subst h3
            exact absurd h (hne j e1 H1)
          · rfl
      | loop a =>
        rw [run] at h ⊢
        split at h
        · rename_i e1 H1 h1
          rw [ih _ _ h1]; exact ih _ _ h
        · rename_i hne
          have h2 := ih _ _ h
          rw [h2]
          split
          · rename_i e1 H1 h3
            simp only [Option.some.injEq] at h3
            subst h3
            exact absurd h (hne e1 H1)
          · rfl
    | ops l e H =>
      cases l with
      | nil => simpa [run] using h
      | cons i r =>
        rw [run] at h ⊢
        split at h
        · exact ih _ _ h
        · split at h
          · split at h
            · split at h
              · rename_i h1
                rw [ih _ _ h1]; exact ih _ _ h
              · cases h
            · cases h
          · split at h
            · exact ih _ _ h
            · cases h
    | dops l full e H acc =>
      cases l with
      | nil => simpa [run] using h
      | cons i r =>
        rw [run] at h ⊢
        split at h
        · exact ih _ _ h
        · split at h
          · split at h
            · exact ih _ _ h
            · cases h
          · split at h
            · split at h
              · exact ih _ _ h
              · cases h
            · cases h
          · split at h
            · split at h
              · split at h
                · rename_i h1
                  rw [ih _ _ h1]; exact ih _ _ h
                · cases h
              · cases h
            · split at h
              · exact ih _ _ h
              · cases h
    | call f args H =>
      rw [run] at h ⊢
      split at h
      · cases h
      · split at h
        · rename_i h1
          rw [ih _ _ h1]; exact h
        · rename_i h1
          rw [ih _ _ h1]; exact h
        · cases h

end Go.Jx
