/- Views of lines, in plain Lean: the document's search, round about. -/
import Derived.Test.YtbkhjpclnfljbaaDoorJxW23view
set_option linter.unusedSimpArgs false
set_option linter.unusedVariables false
set_option maxHeartbeats 1000000
set_option maxRecDepth 100000
namespace Go.Proofs.YtbkhjpclnfljbaaDoor
open Go Go.Jx

def InV (L : List Ln) (p : Spot) : Prop := 0 ≤ p.2 ∧ p.2 < L.length ∧ 0 ≤ p.1 ∧ p.1 < wid L p.2
theorem spotsL_in {L : List Ln} {t : List UInt8} {p : Spot} (h : p ∈ spotsL L t) : InV L p := by
  obtain ⟨x, y, rfl, hy, hx, _⟩ := spotsL_mem.1 h
  refine ⟨by simp only; omega, by simp only; omega, by simp only; omega, ?_⟩
  unfold wid; simp only [Int.toNat_natCast]; omega
theorem spotsL_iff {L : List Ln} {t : List UInt8} {p : Spot} (h : InV L p) : p ∈ spotsL L t ↔ begB (L.getD p.2.toNat ln0).cells t p.1.toNat = true := by
  obtain ⟨h1, h2, h3, h4⟩ := h
  rw [spotsL_mem]
  constructor
  · rintro ⟨x, y, rfl, _, _, hb⟩; simpa using hb
  · intro hb
    unfold wid at h4
    exact ⟨p.1.toNat, p.2.toNat, Prod.ext (by simp only; omega) (by simp only; omega), by omega, by omega, hb⟩
/-- The next cell, round about. -/
def stepF (L : List Ln) (c : Spot) : Spot := if c.1 + 1 < wid L c.2 then (c.1 + 1, c.2) else (0, (c.2 + 1) % (L.length : Int))
def stepB (L : List Ln) (c : Spot) : Spot := if 0 ≤ c.1 - 1 then (c.1 - 1, c.2) else (wid L (if c.2 - 1 < 0 then (L.length : Int) - 1 else c.2 - 1) - 1, if c.2 - 1 < 0 then (L.length : Int) - 1 else c.2 - 1)
theorem stepF_spec {L : List Ln} {h : Int} (k : OkL L h) {c : Spot} (hc : InV L c) : InV L (stepF L c) ∧
    ((bef c (stepF L c) = true ∧ ∀ q, InV L q → bef c q = true → q = stepF L c ∨ bef (stepF L c) q = true) ∨ (stepF L c = (0, 0) ∧ (∀ q, InV L q → bef c q = false) ∧ ∀ q, InV L q → q = stepF L c ∨ bef (stepF L c) q = true)) := by
  obtain ⟨h1, h2, h3, h4⟩ := hc
  have hk := k.len
  unfold stepF
  split
  · rename_i hlt
    refine ⟨⟨h1, h2, by simp only; omega, hlt⟩, .inl ⟨by simp only [bef, decide_eq_true_eq, true_and]; omega, fun q hq hb => ?_⟩⟩
    simp only [bef, decide_eq_true_eq] at hb ⊢
    by_cases e : q = (c.1 + 1, c.2)
    · exact .inl e
    · right
      rcases hb with hb | ⟨hb, hb2⟩
      · left; exact hb
      · right
        refine ⟨hb, ?_⟩
        have : q.1 ≠ c.1 + 1 := fun hh => e (Prod.ext hh hb.symm)
        omega
  · rename_i hge
    by_cases hl : c.2 + 1 < (L.length : Int)
    · have hm : (c.2 + 1) % (L.length : Int) = c.2 + 1 := Int.emod_eq_of_lt (by omega) hl
      have hw := (k.wid (y := c.2 + 1) (by omega) hl).1
      rw [hm]
      refine ⟨⟨by simp only; omega, by simp only; omega, by simp only; omega, by simp only; omega⟩, .inl ⟨by simp only [bef, decide_eq_true_eq, true_and]; omega, fun q hq hb => ?_⟩⟩
      obtain ⟨q1, q2, q3, q4⟩ := hq
      simp only [bef, decide_eq_true_eq] at hb ⊢
      by_cases e : q = (0, c.2 + 1)
      · exact .inl e
      · right
        rcases hb with hb | ⟨hb, hb2⟩
        · by_cases e2 : c.2 + 1 = q.2
          · right
            refine ⟨e2, ?_⟩
            have : q.1 ≠ 0 := fun hh => e (Prod.ext hh e2.symm)
            omega
          · left; omega
        · exfalso; rw [← hb] at q4; omega
    · have hm : (c.2 + 1) % (L.length : Int) = 0 := by rw [show c.2 + 1 = (L.length : Int) by omega]; exact Int.emod_self
      have hw := (k.wid (y := 0) (by omega) (by omega)).1
      rw [hm]
      refine ⟨⟨by simp only; omega, by simp only; omega, by simp only; omega, by simp only; omega⟩, .inr ⟨rfl, fun q hq => ?_, fun q hq => ?_⟩⟩
      · obtain ⟨q1, q2, q3, q4⟩ := hq
        simp only [bef, decide_eq_false_iff_not]
        rintro (hb | ⟨hb, hb2⟩)
        · omega
        · rw [← hb] at q4; omega
      · obtain ⟨q1, q2, q3, q4⟩ := hq
        simp only [bef, decide_eq_true_eq]
        by_cases e : q = (0, 0)
        · exact .inl e
        · right
          by_cases e2 : q.2 = 0
          · right
            refine ⟨e2.symm, ?_⟩
            have : q.1 ≠ 0 := fun hh => e (Prod.ext hh e2)
            omega
          · left; omega
theorem stepB_spec {L : List Ln} {h : Int} (k : OkL L h) {c : Spot} (hc : InV L c) : InV L (stepB L c) ∧
    ((bef (stepB L c) c = true ∧ ∀ q, InV L q → bef q c = true → q = stepB L c ∨ bef q (stepB L c) = true) ∨ ((∀ q, InV L q → bef q c = false) ∧ ∀ q, InV L q → q = stepB L c ∨ bef q (stepB L c) = true)) := by
  obtain ⟨h1, h2, h3, h4⟩ := hc
  have hk := k.len
  unfold stepB
  split
  · rename_i hlt
    refine ⟨⟨h1, h2, by simp only; omega, by simp only; omega⟩, .inl ⟨by simp only [bef, decide_eq_true_eq, true_and]; omega, fun q hq hb => ?_⟩⟩
    simp only [bef, decide_eq_true_eq] at hb ⊢
    by_cases e : q = (c.1 - 1, c.2)
    · exact .inl e
    · right
      rcases hb with hb | ⟨hb, hb2⟩
      · left; exact hb
      · right
        refine ⟨hb, ?_⟩
        have : q.1 ≠ c.1 - 1 := fun hh => e (Prod.ext hh hb)
        omega
  · rename_i hge
    by_cases hl : c.2 - 1 < 0
    · rw [if_pos hl]
      have hw := (k.wid (y := (L.length : Int) - 1) (by omega) (by omega)).1
      refine ⟨⟨by simp only; omega, by simp only; omega, by simp only; omega, by simp only; omega⟩, .inr ⟨fun q hq => ?_, fun q hq => ?_⟩⟩
      · obtain ⟨q1, q2, q3, q4⟩ := hq
        simp only [bef, decide_eq_false_iff_not]
        omega
      · obtain ⟨q1, q2, q3, q4⟩ := hq
        simp only [bef, decide_eq_true_eq]
        by_cases e : q = (wid L ((L.length : Int) - 1) - 1, (L.length : Int) - 1)
        · exact .inl e
        · right
          by_cases e2 : q.2 = (L.length : Int) - 1
          · right
            refine ⟨e2, ?_⟩
            have : q.1 ≠ wid L ((L.length : Int) - 1) - 1 := fun hh => e (Prod.ext hh e2)
            rw [e2] at q4; omega
          · left; omega
    · rw [if_neg hl]
      have hw := (k.wid (y := c.2 - 1) (by omega) (by omega)).1
      refine ⟨⟨by simp only; omega, by simp only; omega, by simp only; omega, by simp only; omega⟩, .inl ⟨by simp only [bef, decide_eq_true_eq, true_and]; omega, fun q hq hb => ?_⟩⟩
      obtain ⟨q1, q2, q3, q4⟩ := hq
      simp only [bef, decide_eq_true_eq] at hb ⊢
      by_cases e : q = (wid L (c.2 - 1) - 1, c.2 - 1)
      · exact .inl e
      · right
        rcases hb with hb | ⟨hb, hb2⟩
        · by_cases e2 : q.2 = c.2 - 1
          · right
            refine ⟨e2, ?_⟩
            have : q.1 ≠ wid L (c.2 - 1) - 1 := fun hh => e (Prod.ext hh e2)
            rw [e2] at q4; omega
          · left; omega
        · omega
/-- What holds of a search under way. -/
def FwI (L : List Ln) (A : List Spot) (p c : Spot) : Prop := InV L c ∧ (((c = p ∨ bef p c = true) ∧ ∀ q ∈ A, bef p q = true → bef c q = true) ∨ (bef c p = true ∧ (∀ q ∈ A, bef p q = false) ∧ ∀ q ∈ A, bef c q = true))
def BwI (L : List Ln) (A : List Spot) (p c : Spot) : Prop := InV L c ∧ (((c = p ∨ bef c p = true) ∧ ∀ q ∈ A, bef q p = true → bef q c = true) ∨ (bef p c = true ∧ (∀ q ∈ A, bef q p = false) ∧ ∀ q ∈ A, bef q c = true))
def mF (p c : Spot) : Nat := if c = p ∨ bef p c = true then 2000000 - (c.2 * 1000 + c.1).toNat else 1000000 - (c.2 * 1000 + c.1).toNat
def mB (p c : Spot) : Nat := if c = p ∨ bef c p = true then 1000000 + (c.2 * 1000 + c.1).toNat else (c.2 * 1000 + c.1).toNat
theorem inV_lt {L : List Ln} {h : Int} (k : OkL L h) {c : Spot} (hc : InV L c) : 0 ≤ c.1 ∧ c.1 < 1000 ∧ 0 ≤ c.2 ∧ c.2 < 900 := by
  obtain ⟨h1, h2, h3, h4⟩ := hc
  have := (k.wid h1 h2).2
  have := k.big
  omega
theorem bef_num {L : List Ln} {h : Int} (k : OkL L h) {a b : Spot} (ha : InV L a) (hb : InV L b) (hh : bef a b = true) : a.2 * 1000 + a.1 < b.2 * 1000 + b.1 := by
  have h1 := inV_lt k ha
  have h2 := inV_lt k hb
  simp only [bef, decide_eq_true_eq] at hh
  omega
theorem fw_step {L : List Ln} {h : Int} (k : OkL L h) {t : List UInt8} {p c : Spot} (hp : InV L p) (hI : FwI L (spotsL L t) p c) :
    InV L (stepF L c) ∧ (stepF L c ∈ spotsL L t → pickF (spotsL L t) p = some (stepF L c)) ∧
    (stepF L c ∉ spotsL L t → (stepF L c = p → spotsL L t = []) ∧ (stepF L c ≠ p → FwI L (spotsL L t) p (stepF L c) ∧ mF p (stepF L c) < mF p c)) := by
  obtain ⟨hc, hI⟩ := hI
  obtain ⟨hs, hcase⟩ := stepF_spec k hc
  have hS := spotsL_sorted L t
  have hin : ∀ q ∈ spotsL L t, InV L q := fun q hq => spotsL_in hq
  generalize spotsL L t = A at *
  generalize hc' : stepF L c = c' at *
  have hnp := inV_lt k hp
  have hnc := inV_lt k hc
  have hns := inV_lt k hs
  refine ⟨hs, ?_, ?_⟩
  · intro hm
    refine pickF_of hS hm ?_
    rcases hcase with ⟨h1, h2⟩ | ⟨h0, h1, h2⟩
    · rcases hI with ⟨i1, i2⟩ | ⟨i1, i2, i3⟩
      · left
        refine ⟨?_, fun q hq hb => ?_⟩
        · rcases i1 with rfl | i1
          · exact h1
          · exact bef_trans i1 h1
        · rcases h2 q (hin q hq) (i2 q hq hb) with rfl | h3
          · exact bef_irr _
          · exact bef_asym h3
      · right
        refine ⟨i2, fun q hq => ?_⟩
        rcases h2 q (hin q hq) (i3 q hq) with rfl | h3
        · exact bef_irr _
        · exact bef_asym h3
    · right
      constructor
      · intro q hq
        rcases hI with ⟨i1, i2⟩ | ⟨i1, i2, i3⟩
        · cases hb : bef p q with
          | false => rfl
          | true => have := i2 q hq hb; rw [h1 q (hin q hq)] at this; cases this
        · exact i2 q hq
      · intro q hq
        rcases h2 q (hin q hq) with rfl | h3
        · exact bef_irr _
        · exact bef_asym h3
  · intro hm
    constructor
    · intro hcp
      rw [List.eq_nil_iff_forall_not_mem]
      intro q hq
      have hqc : q ≠ c' := fun e => hm (e ▸ hq)
      rcases hcase with ⟨h1, h2⟩ | ⟨h0, h1, h2⟩
      · rcases hI with ⟨i1, i2⟩ | ⟨i1, i2, i3⟩
        · rw [hcp] at h1
          rcases i1 with rfl | i1
          · rw [bef_irr] at h1; cases h1
          · rw [bef_asym i1] at h1; cases h1
        · rcases h2 q (hin q hq) (i3 q hq) with rfl | h3
          · exact hqc rfl
          · rw [hcp, i2 q hq] at h3; cases h3
      · rcases h2 q (hin q hq) with rfl | h3
        · exact hqc rfl
        · rw [hcp] at h3
          rcases hI with ⟨i1, i2⟩ | ⟨i1, i2, i3⟩
          · have := i2 q hq h3; rw [h1 q (hin q hq)] at this; cases this
          · rw [i2 q hq] at h3; cases h3
    · intro hcp
      rcases hcase with ⟨h1, h2⟩ | ⟨h0, h1, h2⟩
      · have hn := bef_num k hc hs h1
        rcases hI with ⟨i1, i2⟩ | ⟨i1, i2, i3⟩
        · have hpc' : bef p c' = true := by
            rcases i1 with rfl | i1
            · exact h1
            · exact bef_trans i1 h1
          refine ⟨⟨hs, .inl ⟨.inr hpc', fun q hq hb => ?_⟩⟩, ?_⟩
          · rcases h2 q (hin q hq) (i2 q hq hb) with rfl | h3
            · exact absurd hq hm
            · exact h3
          · unfold mF
            rw [if_pos (.inr hpc'), if_pos i1]; omega
        · have hc'p : bef c' p = true := by
            rcases h2 p hp i1 with e | h3
            · exact absurd e.symm hcp
            · exact h3
          refine ⟨⟨hs, .inr ⟨hc'p, i2, fun q hq => ?_⟩⟩, ?_⟩
          · rcases h2 q (hin q hq) (i3 q hq) with rfl | h3
            · exact absurd hq hm
            · exact h3
          · unfold mF
            have a1 : ¬ (c = p ∨ bef p c = true) := by
              rintro (rfl | h)
              · rw [bef_irr] at i1; cases i1
              · rw [bef_asym i1] at h; cases h
            have a2 : ¬ (c' = p ∨ bef p c' = true) := by
              rintro (h | h)
              · exact hcp h
              · rw [bef_asym hc'p] at h; cases h
            rw [if_neg a1, if_neg a2]; omega
      · have hc'p : bef c' p = true := by
          rcases h2 p hp with e | h3
          · exact absurd e.symm hcp
          · exact h3
        have hall : ∀ q ∈ A, bef p q = false := by
          intro q hq
          rcases hI with ⟨i1, i2⟩ | ⟨i1, i2, i3⟩
          · cases hb : bef p q with
            | false => rfl
            | true => have := i2 q hq hb; rw [h1 q (hin q hq)] at this; cases this
          · exact i2 q hq
        refine ⟨⟨hs, .inr ⟨hc'p, hall, fun q hq => ?_⟩⟩, ?_⟩
        · rcases h2 q (hin q hq) with rfl | h3
          · exact absurd hq hm
          · exact h3
        · unfold mF
          have a1 : c = p ∨ bef p c = true := by
            by_cases e : c = p
            · exact .inl e
            · right
              cases hb : bef p c with
              | true => rfl
              | false => exact absurd (bef_total (h1 p hp) hb) e
          have a2 : ¬ (c' = p ∨ bef p c' = true) := by
            rintro (h | h)
            · exact hcp h
            · rw [bef_asym hc'p] at h; cases h
          rw [if_pos a1, if_neg a2]; omega
theorem bw_step {L : List Ln} {h : Int} (k : OkL L h) {t : List UInt8} {p c : Spot} (hp : InV L p) (hI : BwI L (spotsL L t) p c) :
    InV L (stepB L c) ∧ (stepB L c ∈ spotsL L t → pickB (spotsL L t) p = some (stepB L c)) ∧
    (stepB L c ∉ spotsL L t → (stepB L c = p → spotsL L t = []) ∧ (stepB L c ≠ p → BwI L (spotsL L t) p (stepB L c) ∧ mB p (stepB L c) < mB p c)) := by
  obtain ⟨hc, hI⟩ := hI
  obtain ⟨hs, hcase⟩ := stepB_spec k hc
  have hS := spotsL_sorted L t
  have hin : ∀ q ∈ spotsL L t, InV L q := fun q hq => spotsL_in hq
  generalize spotsL L t = A at *
  generalize hc' : stepB L c = c' at *
  have hnp := inV_lt k hp
  have hnc := inV_lt k hc
  have hns := inV_lt k hs
  refine ⟨hs, ?_, ?_⟩
  · intro hm
    refine pickB_of hS hm ?_
    rcases hcase with ⟨h1, h2⟩ | ⟨h1, h2⟩
    · rcases hI with ⟨i1, i2⟩ | ⟨i1, i2, i3⟩
      · left
        refine ⟨?_, fun q hq hb => ?_⟩
        · rcases i1 with rfl | i1
          · exact h1
          · exact bef_trans h1 i1
        · rcases h2 q (hin q hq) (i2 q hq hb) with rfl | h3
          · exact bef_irr _
          · exact bef_asym h3
      · right
        refine ⟨i2, fun q hq => ?_⟩
        rcases h2 q (hin q hq) (i3 q hq) with rfl | h3
        · exact bef_irr _
        · exact bef_asym h3
    · right
      constructor
      · intro q hq
        rcases hI with ⟨i1, i2⟩ | ⟨i1, i2, i3⟩
        · cases hb : bef q p with
          | false => rfl
          | true => have := i2 q hq hb; rw [h1 q (hin q hq)] at this; cases this
        · exact i2 q hq
      · intro q hq
        rcases h2 q (hin q hq) with rfl | h3
        · exact bef_irr _
        · exact bef_asym h3
  · intro hm
    constructor
    · intro hcp
      rw [List.eq_nil_iff_forall_not_mem]
      intro q hq
      have hqc : q ≠ c' := fun e => hm (e ▸ hq)
      rcases hcase with ⟨h1, h2⟩ | ⟨h1, h2⟩
      · rcases hI with ⟨i1, i2⟩ | ⟨i1, i2, i3⟩
        · rw [hcp] at h1
          rcases i1 with rfl | i1
          · rw [bef_irr] at h1; cases h1
          · rw [bef_asym i1] at h1; cases h1
        · rcases h2 q (hin q hq) (i3 q hq) with rfl | h3
          · exact hqc rfl
          · rw [hcp, i2 q hq] at h3; cases h3
      · rcases h2 q (hin q hq) with rfl | h3
        · exact hqc rfl
        · rw [hcp] at h3
          rcases hI with ⟨i1, i2⟩ | ⟨i1, i2, i3⟩
          · have := i2 q hq h3; rw [h1 q (hin q hq)] at this; cases this
          · rw [i2 q hq] at h3; cases h3
    · intro hcp
      rcases hcase with ⟨h1, h2⟩ | ⟨h1, h2⟩
      · have hn := bef_num k hs hc h1
        rcases hI with ⟨i1, i2⟩ | ⟨i1, i2, i3⟩
        · have hpc' : bef c' p = true := by
            rcases i1 with rfl | i1
            · exact h1
            · exact bef_trans h1 i1
          refine ⟨⟨hs, .inl ⟨.inr hpc', fun q hq hb => ?_⟩⟩, ?_⟩
          · rcases h2 q (hin q hq) (i2 q hq hb) with rfl | h3
            · exact absurd hq hm
            · exact h3
          · unfold mB
            rw [if_pos (.inr hpc'), if_pos i1]; omega
        · have hc'p : bef p c' = true := by
            rcases h2 p hp i1 with e | h3
            · exact absurd e.symm hcp
            · exact h3
          refine ⟨⟨hs, .inr ⟨hc'p, i2, fun q hq => ?_⟩⟩, ?_⟩
          · rcases h2 q (hin q hq) (i3 q hq) with rfl | h3
            · exact absurd hq hm
            · exact h3
          · unfold mB
            have a1 : ¬ (c = p ∨ bef c p = true) := by
              rintro (rfl | h)
              · rw [bef_irr] at i1; cases i1
              · rw [bef_asym i1] at h; cases h
            have a2 : ¬ (c' = p ∨ bef c' p = true) := by
              rintro (h | h)
              · exact hcp h
              · rw [bef_asym hc'p] at h; cases h
            rw [if_neg a1, if_neg a2]; omega
      · have hc'p : bef p c' = true := by
          rcases h2 p hp with e | h3
          · exact absurd e.symm hcp
          · exact h3
        have hall : ∀ q ∈ A, bef q p = false := by
          intro q hq
          rcases hI with ⟨i1, i2⟩ | ⟨i1, i2, i3⟩
          · cases hb : bef q p with
            | false => rfl
            | true => have := i2 q hq hb; rw [h1 q (hin q hq)] at this; cases this
          · exact i2 q hq
        refine ⟨⟨hs, .inr ⟨hc'p, hall, fun q hq => ?_⟩⟩, ?_⟩
        · rcases h2 q (hin q hq) with rfl | h3
          · exact absurd hq hm
          · exact h3
        · unfold mB
          have a1 : c = p ∨ bef c p = true := by
            by_cases e : c = p
            · exact .inl e
            · right
              cases hb : bef c p with
              | true => rfl
              | false => exact absurd (bef_total hb (h1 p hp)) e
          have a2 : ¬ (c' = p ∨ bef c' p = true) := by
            rintro (h | h)
            · exact hcp h
            · rw [bef_asym hc'p] at h; cases h
          rw [if_pos a1, if_neg a2]; omega
theorem FwI.start {L : List Ln} {A : List Spot} {p : Spot} (h : InV L p) : FwI L A p p := ⟨h, .inl ⟨.inl rfl, fun _ _ h => h⟩⟩
theorem BwI.start {L : List Ln} {A : List Spot} {p : Spot} (h : InV L p) : BwI L A p p := ⟨h, .inl ⟨.inl rfl, fun _ _ h => h⟩⟩
end Go.Proofs.YtbkhjpclnfljbaaDoor
