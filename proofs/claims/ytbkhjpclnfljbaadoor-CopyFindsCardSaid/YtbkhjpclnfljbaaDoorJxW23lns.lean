/- Lines of cells, as they lie. -/
import Derived.Test.YtbkhjpclnfljbaaDoorJxW23row
import Derived.Test.YtbkhjpclnfljbaaDoorJxW23plain
import Derived.Test.YtbkhjpclnfljbaaDoorJxW9
set_option linter.unusedSimpArgs false
set_option linter.unusedVariables false
set_option maxHeartbeats 1000000
set_option maxRecDepth 100000
namespace Go.Proofs.YtbkhjpclnfljbaaDoor
open Go Go.Jx

/-- A load that is not done. -/
theorem CL_none {recs rs : List Rec} {dst : Option Nat} {agg : Option Nat} {x : Rnd} {g : Option (Nat × Bool)} {lo hi : List Nat} {l : List DI} {r : Rec} {e : List AV} {h h' : Heap}
    (hr : RecIs ⟨⟨dst, .load agg x, g⟩, 1, lo, hi⟩ e h h' r) (hx : rd e x = undefA) (k : CL recs l rs) : CL recs (⟨⟨dst, .load agg x, g⟩, 1, lo, hi⟩ :: l) (r :: rs) := by
  unfold CL at k ⊢
  unfold checkLoads
  rw [k]
  obtain ⟨h1, h2, h3⟩ := hr
  cases hon : r.on with
  | false => simp
  | true =>
    obtain ⟨agg', x', hop, hx', hv⟩ := h3 rfl hon
    simp only [MOp.load.injEq] at hop
    obtain ⟨rfl, rfl⟩ := hop
    rw [hx', hx] at hv
    cases agg <;> simp [loadA, undefA] at hv

structure LnH where
  v : SV
  j : Bool
  s : Bool
def lnE : El LnH := ⟨3, fun l => [l.v, .bool l.j, .bool l.s], fun l => match l with | [v, .bool j, .bool s] => ⟨v, j, s⟩ | _ => ⟨.nils, false, false⟩, ⟨.nils, false, false⟩, fun _ => rfl, by decide, fun _ => rfl⟩
abbrev LnC := LnH × List Cell
def lnOf (g : LnC) : Ln := ⟨g.2, g.1.j, g.1.s⟩
def lnC0 : LnC := (⟨.nils, false, false⟩, [])
/-- What is in a part. -/
def InP (c : Hp) : Ro := fun id o => (id, o) ∈ c
theorem InP.now {R : Ro} {M : List Hp} {h : Heap} {c : Hp} (s : Sep R M h) (hc : c ∈ M) : (InP c).le (Now h) := fun id o k => s.get (id, o) (List.mem_flatten.2 ⟨c, hc, k⟩)
theorem InP.add (R : Ro) (c : Hp) : (InP c).le (R.add c) := fun _ _ k => .inr k
theorem InP.left (c d : Hp) : (InP c).le (InP (c ++ d)) := fun _ _ k => List.mem_append_left _ k
theorem InP.right (c d : Hp) : (InP d).le (InP (c ++ d)) := fun _ _ k => List.mem_append_right _ k
/-- Lines that are only read. -/
def LnsR (R : Ro) (v : SV) (G : List LnC) : Prop := SlR lnE R v (G.map Prod.fst) ∧ ∀ g ∈ G, SlR cellE R g.1.v g.2
theorem LnsR.mono {R R' : Ro} {v : SV} {G : List LnC} (l : R.le R') (p : LnsR R v G) : LnsR R' v G := ⟨p.1.mono l, fun g hg => (p.2 g hg).mono l⟩
theorem LnsR.ln {R : Ro} {v : SV} {G : List LnC} (p : LnsR R v G) : Len v G.length := by have := p.1.ln; rwa [List.length_map] at this
theorem LnsR.row {R : Ro} {v : SV} {G : List LnC} (p : LnsR R v G) {i : Nat} (hi : i < G.length) : SlR cellE R ((G.map Prod.fst).getD i lnE.dflt).v ((G.map Prod.snd).getD i []) := by
  rw [getD_map_fst G i lnE.dflt [], getD_map_snd G i lnE.dflt []]
  exact p.2 _ (getD_mem hi)
/-- The i-th line, as it is read. -/
abbrev atH (G : List LnC) (i : Nat) : LnH := (G.map Prod.fst).getD (i : Int).toNat lnE.dflt
abbrev atC (G : List LnC) (i : Nat) : List Cell := (G.map Prod.snd).getD i []
abbrev atL (G : List LnC) (i : Nat) : Ln := ⟨atC G i, (atH G i).j, (atH G i).s⟩
theorem LnsR.at {R : Ro} {v : SV} {G : List LnC} (p : LnsR R v G) {i : Nat} (hi : i < G.length) : SlR cellE R (atH G i).v (atC G i) := p.row hi
theorem atC_len {G : List LnC} {n i : Nat} (h : ∀ g ∈ G, g.2.length ≤ n) (hi : i < G.length) : (atC G i).length ≤ n := by
  show ((G.map Prod.snd).getD i []).length ≤ n
  rw [getD_map_snd G i lnE.dflt []]; exact h _ (getD_mem hi)
theorem LnsR.now {R : Ro} {M : List Hp} {h : Heap} {v : SV} {G : List LnC} (s : Sep R M h) (p : LnsR R v G) : LnsR (Now h) v G := p.mono s.le
/-- Slices, that stand in a part. -/
theorem NsR.nowP {R : Ro} {M : List Hp} {h : Heap} {c : Hp} {v : SV} {G : List (SV × List Cell)} (s : Sep R M h) (hc : c ∈ M) (p : NsR cellE (InP c) v G) : NsR cellE (Now h) v G := p.mono (InP.now s hc)
theorem LnsR.nowP {R : Ro} {M : List Hp} {h : Heap} {c : Hp} {v : SV} {G : List LnC} (s : Sep R M h) (hc : c ∈ M) (p : LnsR (InP c) v G) : LnsR (Now h) v G := p.mono (InP.now s hc)
/-- The i-th line. -/
theorem lnOf_at {G : List LnC} {i : Nat} (hi : i < G.length) : (G.map lnOf)[i]? = some ⟨(G.map Prod.snd).getD i [], ((G.map Prod.fst).getD i lnE.dflt).j, ((G.map Prod.fst).getD i lnE.dflt).s⟩ := by
  rw [List.getElem?_map, List.getElem?_eq_getElem hi, getD_map_fst G i lnE.dflt [], getD_map_snd G i lnE.dflt [], List.getD_eq_getElem?_getD, List.getElem?_eq_getElem hi]; rfl
theorem lnOf_drop {G : List LnC} {i : Nat} (hi : i < G.length) : (G.map lnOf).drop i = ⟨(G.map Prod.snd).getD i [], ((G.map Prod.fst).getD i lnE.dflt).j, ((G.map Prod.fst).getD i lnE.dflt).s⟩ :: (G.map lnOf).drop (i + 1) := by
  have h := lnOf_at hi
  have hl : i < (G.map lnOf).length := by rw [List.length_map]; exact hi
  rw [List.drop_eq_getElem_cons hl]; congr 1
  rw [List.getElem?_eq_getElem hl] at h; exact Option.some.inj h
theorem AccS.inP {E : El Cell} {t : TypeId} {v : SV} {L : List Cell} {c : Hp} (p : AccS E t v L c) : SlR E (InP c) v L := p.1.inR fun _ k => k
theorem AccS.inPl {t : TypeId} {v : SV} {L : List LnH} {c : Hp} (p : AccS lnE t v L c) : SlR lnE (InP c) v L := p.1.inR fun _ k => k
theorem AccS.inPs {t : TypeId} {v : SV} {L : List SV} {c : Hp} (p : AccS svEl t v L c) : SlR svEl (InP c) v L := p.1.inR fun _ k => k
theorem AccS.inPi {k : IntKind} {t : TypeId} {v : SV} {L : List Int} {c : Hp} (p : AccS (intEl k) t v L c) : SlR (intEl k) (InP c) v L := p.1.inR fun _ k => k
theorem lnOf_dropH {G : List LnC} {i : Nat} (hi : i < G.length) : (G.map lnOf).drop i = atL G i :: (G.map lnOf).drop (i + 1) := lnOf_drop hi
theorem lnOf_atH {G : List LnC} {i : Nat} (hi : i < G.length) : (G.map lnOf)[i]? = some (atL G i) := lnOf_at hi
theorem countL_le (l : Ln) : countL l ≤ l.cells.length := by unfold countL; split <;> omega
end Go.Proofs.YtbkhjpclnfljbaaDoor
