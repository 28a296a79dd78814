/-
  Regions that draw their order: what the text's order tells, all orders tell.
-/
import Derived.Test.YtfmldkjidfigbaaDoorJxDraw
import Derived.Test.YtfmldkjidfigbaaDoorJxCodeBase
import Derived.Orders
namespace Go.Jx
open Go Go.RowKit
set_option linter.unusedSimpArgs false
set_option linter.unusedVariables false

/-! ### the set of operations ahead -/

theorem foldl_bits (acc : List Nat) (i : Nat) : ∀ (a : List Nat) (s : Nat), (a.foldl (fun s j => s ||| 2 ^ j ||| acc.getD j 0) s).testBit i = true → s.testBit i = true ∨ ∃ j ∈ a, j = i ∨ (acc.getD j 0).testBit i = true
  | [], s, h => .inl h
  | j :: a, s, h => by
    simp only [List.foldl_cons] at h
    rcases foldl_bits acc i a _ h with h | ⟨k, hk, h⟩
    · simp only [Nat.testBit_or, Bool.or_eq_true, Nat.testBit_two_pow, decide_eq_true_eq] at h
      rcases h with (h | h) | h
      · exact .inl h
      · exact .inr ⟨j, by simp, .inl h⟩
      · exact .inr ⟨j, by simp, .inr h⟩
    · exact .inr ⟨k, by simp [hk], h⟩

theorem tblGo_spec : ∀ (l : List (List Nat)) (acc : List Nat) (done : List (List Nat)), done.length = acc.length →
    (∀ (k i : Nat) (a : List Nat), done[k]? = some a → (acc.getD k 0).testBit i = true → ∃ j ∈ a, j = i ∨ (j < k ∧ (acc.getD j 0).testBit i = true)) →
    (tblGo l acc).length = acc.length + l.length ∧ (∀ k, k < acc.length → (tblGo l acc).getD k 0 = acc.getD k 0) ∧
    ∀ (k i : Nat) (a : List Nat), (done ++ l)[k]? = some a → ((tblGo l acc).getD k 0).testBit i = true → ∃ j ∈ a, j = i ∨ (j < k ∧ ((tblGo l acc).getD j 0).testBit i = true)
  | [], acc, done, hl, h => ⟨by simp [tblGo], fun _ _ => rfl, by simpa [tblGo] using h⟩
  | a :: l, acc, done, hl, h => by
    have key := tblGo_spec l (acc ++ [a.foldl (fun s j => s ||| 2 ^ j ||| acc.getD j 0) 0]) (done ++ [a]) (by simp [hl]) (fun k i b hk hb => by
      by_cases hlt : k < acc.length
      · rw [List.getElem?_append_left (by omega)] at hk
        have e1 : (acc ++ [a.foldl (fun s j => s ||| 2 ^ j ||| acc.getD j 0) 0]).getD k 0 = acc.getD k 0 := by simp [List.getD, List.getElem?_append_left hlt]
        rw [e1] at hb
        obtain ⟨j, hj, hh⟩ := h k i b hk hb
        refine ⟨j, hj, hh.imp_right fun ⟨h1, h2⟩ => ⟨h1, ?_⟩⟩
        have : (acc ++ [a.foldl (fun s j => s ||| 2 ^ j ||| acc.getD j 0) 0]).getD j 0 = acc.getD j 0 := by simp [List.getD, List.getElem?_append_left (show j < acc.length by omega)]
        rw [this]; exact h2
      · have hkl : k = acc.length := by
          have := (List.getElem?_eq_some_iff.1 hk).1
          simp at this; omega
        subst hkl
        have hb0 : b = a := by
          rw [List.getElem?_append_right (by omega), hl] at hk
          simpa using hk.symm
        subst hb0
        have e1 : (acc ++ [b.foldl (fun s j => s ||| 2 ^ j ||| acc.getD j 0) 0]).getD acc.length 0 = b.foldl (fun s j => s ||| 2 ^ j ||| acc.getD j 0) 0 := by simp [List.getD]
        rw [e1] at hb
        rcases foldl_bits acc i b 0 hb with hz | ⟨j, hj, hh⟩
        · simp at hz
        · refine ⟨j, hj, hh.imp_right fun h2 => ?_⟩
          have hjl : j < acc.length := by
            rcases Nat.lt_or_ge j acc.length with h3 | h3
            · exact h3
            · have : acc.getD j 0 = 0 := by simp [List.getD, List.getElem?_eq_none h3]
              rw [this] at h2; simp at h2
          refine ⟨hjl, ?_⟩
          have : (acc ++ [b.foldl (fun s j => s ||| 2 ^ j ||| acc.getD j 0) 0]).getD j 0 = acc.getD j 0 := by simp [List.getD, List.getElem?_append_left hjl]
          rw [this]; exact h2)
    obtain ⟨k1, k2, k3⟩ := key
    refine ⟨by simp only [tblGo, k1]; simp; omega, fun k hk => ?_, fun k i b hk hb => ?_⟩
    · simp only [tblGo]
      rw [k2 k (by simp; omega)]
      simp [List.getD, List.getElem?_append_left hk]
    · simp only [tblGo] at hb ⊢
      exact k3 k i b (by simpa using hk) hb

theorem tbl_spec (ons : List (List Nat)) (k i : Nat) (a : List Nat) (hk : ons[k]? = some a) (h : ahead (tblGo ons []) k i = true) : ∃ j ∈ a, j = i ∨ (j < k ∧ ahead (tblGo ons []) j i = true) := by
  have := (tblGo_spec ons [] [] rfl (by simp)).2.2 k i a (by simpa using hk) h
  exact this

/-- Whoever is carried out, those ahead of him were. -/
theorem ahead_closed (ons : List (List Nat)) (L : Nat → Bool) (hc : ∀ k a, L k = true → ons[k]? = some a → ∀ j ∈ a, L j = true) (hn : ∀ k, L k = true → k < ons.length) :
    ∀ (k i : Nat), (∀ a, ons[k]? = some a → ∀ j ∈ a, L j = true) → ahead (tblGo ons []) k i = true → L i = true := by
  intro k
  induction k using Nat.strongRecOn with
  | _ k ih =>
    intro i hk h
    cases ha : ons[k]? with
    | none =>
      have hlen := (tblGo_spec ons [] [] rfl (by simp)).1
      have : ons.length ≤ k := by simpa using ha
      have hz : (tblGo ons []).getD k 0 = 0 := by simp [List.getD, List.getElem?_eq_none (show (tblGo ons []).length ≤ k by rw [hlen]; simpa using this)]
      unfold ahead at h; rw [hz] at h; simp at h
    | some a =>
      obtain ⟨j, hj, hh⟩ := tbl_spec ons k i a ha h
      have hLj := hk a ha j hj
      rcases hh with rfl | ⟨h1, h2⟩
      · exact hLj
      · exact ih j h1 i (fun b hb => hc j b hLj hb) h2

/-! ### what an operation reads -/

def Agree (l : List Nat) (e e' : List AV) : Prop := ∀ x ∈ l, e.getD x undefA = e'.getD x undefA

theorem Agree.left {l m : List Nat} {e e' : List AV} (h : Agree (l ++ m) e e') : Agree l e e' := fun x hx => h x (by simp [hx])
theorem Agree.right {l m : List Nat} {e e' : List AV} (h : Agree (l ++ m) e e') : Agree m e e' := fun x hx => h x (by simp [hx])
theorem Agree.rd {r : Rnd} {e e' : List AV} (h : Agree (rndT r) e e') : rd e r = rd e' r := by
  cases r with
  | t i => exact h i (by simp [rndT])
  | k v => rfl
theorem Agree.map {l : List Rnd} {e e' : List AV} (h : Agree (l.flatMap rndT) e e') : l.map (Jx.rd e) = l.map (Jx.rd e') := by
  apply List.map_congr_left
  intro r hr
  exact Agree.rd (fun x hx => h x (by simp only [List.mem_flatMap]; exact ⟨r, hr, hx⟩))
theorem Agree.opt {o : Option Rnd} {e e' : List AV} (h : Agree (o.toList.flatMap rndT) e e') : o.map (Jx.rd e) = o.map (Jx.rd e') := by
  cases o with
  | none => rfl
  | some r => simp only [Option.map_some]; congr 1; exact Agree.rd (by simpa using h)
theorem Agree.parts {l : List (Nat × Nat × Rnd)} {e e' : List AV} (h : Agree (l.flatMap fun p => rndT p.2.2) e e') : (l.map fun p => (p.1, p.2.1, Jx.rd e p.2.2)) = (l.map fun p => (p.1, p.2.1, Jx.rd e' p.2.2)) := by
  apply List.map_congr_left
  intro p hp
  rw [Agree.rd (r := p.2.2) (fun x hx => h x (by simp only [List.mem_flatMap]; exact ⟨p, hp, hx⟩))]

theorem opA_congr (m : MOp) {e e' : List AV} (h : Agree (reads m) e e') (H : Heap) : pureA m e = pureA m e' ∧ opA m e H = opA m e' H ∧ calleeA m e = calleeA m e' := by
  cases m <;> simp only [reads] at h
  case bad => exact ⟨rfl, rfl, rfl⟩
  case alloc => exact ⟨rfl, rfl, rfl⟩
  case lenArr => exact ⟨rfl, rfl, rfl⟩
  case pick a b c => simp only [pureA, opA, calleeA, h.left.left.rd, h.left.right.rd, h.right.rd, and_self]
  case build z ps => simp only [pureA, opA, calleeA, Agree.parts h, and_self]
  case buildSlice t s n z ps => simp only [pureA, opA, calleeA, Agree.parts h, and_self]
  case makeFunc f l => simp only [pureA, opA, calleeA, Agree.map h, and_self]
  case min l => simp only [pureA, opA, calleeA, Agree.map h, and_self]
  case max l => simp only [pureA, opA, calleeA, Agree.map h, and_self]
  case call f l => simp only [pureA, opA, calleeA, Agree.map h, and_self]
  case callv x l => simp only [pureA, opA, calleeA, h.left.rd, Agree.map h.right, and_self]
  case sliceStr x lo hi => simp only [pureA, opA, calleeA, h.left.left.rd, Agree.opt h.left.right, Agree.opt h.right, and_self]
  case slice s x lo hi => simp only [pureA, opA, calleeA, h.left.left.rd, Agree.opt h.left.right, Agree.opt h.right, and_self]
  case sliceArr n s x lo hi => simp only [pureA, opA, calleeA, h.left.left.rd, Agree.opt h.left.right, Agree.opt h.right, and_self]
  case conv c x => cases c <;> simp only [pureA, opA, calleeA, h.rd, and_self]
  all_goals first
    | (simp only [pureA, opA, calleeA, h.rd, and_self]; done)
    | (simp only [pureA, opA, calleeA, h.left.rd, h.right.rd, and_self]; done)

theorem wanted_congr (g : Option (Nat × Bool)) {e e' : List AV} (h : Agree (match g with | some (t, _) => [t] | none => []) e e') : wantedA e g = wantedA e' g := by
  cases g with
  | none => rfl
  | some p => simp only [wantedA]; rw [h p.1 (by simp)]

end Go.Jx
