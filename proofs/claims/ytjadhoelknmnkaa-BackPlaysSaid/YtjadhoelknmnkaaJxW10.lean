/-
  Walking a range over a function.
-/
import Derived.Test.YtjadhoelknmnkaaJxW9
namespace Go.Jx
open Go
set_option linter.unusedVariables false
section
variable {D : Nat → Option MFunc} {Q : Ex → List AV → Heap → Prop} {e : List AV} {h : Heap}

theorem W_codeE {c c' : MCode} (hc : c = c') (k : W D (.code c' e h) Q) : W D (.code c e h) Q := hc ▸ k
theorem W_envE {c : MCode} {e' : List AV} (he : e = e') (k : W D (.code c e' h) Q) : W D (.code c e h) Q := he ▸ k
theorem W_negI {dst : Option Nat} {r : List MI} {x : Rnd} {kd : IntKind} {n : Int} (hx : rd e x = .sc (.int kd n)) (k : W D (.ops r (put e dst (.sc (.int kd (kd.wrap (0 - n))))) h) Q) : W D (.ops (⟨dst, .un .neg x, none⟩ :: r) e h) Q := by
  refine W_act rfl (v := .sc (.int kd (kd.wrap (0 - n)))) (h' := h) ?_ k
  show (unA .neg (rd e x)).map _ = _
  rw [hx]; rfl
/-- What is asked behind a function's body that laid marks. -/
def markK (n0 : Nat) (Q : Ex → List AV → Heap → Prop) : Ex → List AV → Heap → Prop := fun x e h => Q x e (h.shut n0)
theorem markK_r {n0 : Nat} (k : Q .ret e (h.shut n0)) : markK n0 Q .ret e h := k
theorem markK_n {n0 : Nat} (k : Q .normal e (h.shut n0)) : markK n0 Q .normal e h := k
theorem W_marked {a : MCode} (k : W D (.code a e h) (markK h.n Q)) : W D (.code (.marked a) e h) Q := by
  obtain ⟨n, x, vs, h', hr, hq⟩ := W.out k
  exact W_run (n := n + 1) (by rw [run, hr]) hq
attribute [irreducible] markK

theorem Heap.get_shut' (h : Heap) (n0 id : Nat) : (h.shut n0).get id = if n0 ≤ id then (h.get id).map shutO else h.get id := by
  unfold Heap.shut Heap.get
  by_cases hid : id < h.n
  · simp only [hid, if_true]
    rw [List.getElem?_append, List.length_map, List.length_take]
    by_cases h0 : n0 ≤ id
    · rw [if_pos h0]
      by_cases hl : h.n - 1 - id < h.l.length
      · rw [if_pos (by omega), List.getElem?_map, List.getElem?_take, if_pos (by omega)]
      · rw [if_neg (by omega), List.getElem?_drop, List.getElem?_eq_none (by omega), List.getElem?_eq_none (by omega)]; rfl
    · rw [if_neg h0]
      by_cases hl : h.n - n0 ≤ h.l.length
      · rw [if_neg (by omega), List.getElem?_drop]
        congr 1; omega
      · rw [if_neg (by omega), List.getElem?_drop, List.getElem?_eq_none (by omega), List.getElem?_eq_none (by omega)]
  · simp [hid]
theorem Sep.shut {h0 : Heap} {M : List Hp} (s : Sep (Now h0) M h) (hM : ∀ p ∈ M.flatten, p.2 ≠ .dfr) : Sep (Now h0) M (h.shut h0.n) := by
  refine ⟨fun id o k => ?_, fun p hp => ?_, s.nd, s.off⟩
  · have k' : h0.get id = Option.some o := k
    have := Heap.get_lt k'
    rw [Heap.get_shut', if_neg (by omega)]; exact s.ro _ _ k
  · have h1 := s.get p hp
    rw [Heap.get_shut']
    split
    · rw [h1, Option.map_some]
      have := hM p hp
      cases hp2 : p.2 <;> first | rfl | exact absurd hp2 this
    · exact h1

theorem Sep.shutG {R : Ro} {M : List Hp} {n0 : Nat} (s : Sep R M h) (hR : ∀ id o, R id o → id < n0) (hM : ∀ p ∈ M.flatten, p.1 < n0 ∨ p.2 ≠ .dfr) : Sep R M (h.shut n0) := by
  refine ⟨fun id o k => ?_, fun p hp => ?_, s.nd, s.off⟩
  · have := hR id o k
    rw [Heap.get_shut', if_neg (by omega)]; exact s.ro _ _ k
  · have h1 := s.get p hp
    rw [Heap.get_shut']
    split
    · rw [h1, Option.map_some]
      have := (hM p hp).resolve_left (by omega)
      cases hp2 : p.2 <;> first | rfl | exact absurd hp2 this
    · exact h1
theorem AccS.noDfr {α : Type} {E : El α} {t : TypeId} {v : SV} {L : List α} {c : Hp} (p : AccS E t v L c) : ∀ q ∈ c, q.2 ≠ .dfr := by
  rcases p.1 with ⟨_, rfl, _⟩ | ⟨id, kd, _, rfl, _⟩
  · intro q hq; cases hq
  · intro q hq
    rcases List.mem_singleton.1 hq with rfl
    intro hh; cases hh

theorem fnK_cell1 {R : Ro} {M : List Hp} {m : MFunc} {a id : Nat} {t : TypeId} {kd : Kind} {cs : List SV} {v : SV} (s : Sep R M h) (k : Nat) (hm : m.results = [.cell a none]) (ha : e.getD a undefA = .sc (.ptr id 0)) (hk : M[k]? = some [(id, .cells t kd cs)]) (hr : cs[0]? = some v) (K : Q .ret [.sc v] h) : fnK m Q .ret e h := by
  refine fnK_r (v := .sc v) ?_ K
  rw [hm]
  simp only [resultsA, resultsAll, resultA, ha, loadA, s.at1 k hk, partA, hr, Option.map_some]

/-- A call of a loop's round. -/
theorem W_callY {dst : Option Nat} {r : List MI} {x : Rnd} {id : Nat} {args : List Rnd} {as : List AV} {P : AV → Heap → Prop} (hx : rd e x = .sc (.yieldv id)) (ha : args.map (rd e) = as)
    (hs : W D (.yield id as h) (fun _ vs h' => ∃ v, vs = [v] ∧ P v h')) (k : ∀ v h', P v h' → W D (.ops r (put e dst v) h') Q) : W D (.ops (⟨dst, .callv x args, none⟩ :: r) e h) Q := by
  obtain ⟨n, y, vs, h', hr, v, rfl, hp⟩ := W.out hs
  obtain ⟨m, z, us, h2, hr2, hq⟩ := W.out (k v h' hp)
  refine W_run (n := Nat.max n m + 1) (x := z) (vs := us) (h := h2) ?_ hq
  rw [run]
  simp only [wantedA, isCall, calleeA, hx, yieldA]
  rw [ha, run_le (Nat.le_max_left n m) hr]
  exact run_le (Nat.le_max_right n m) hr2

abbrev lpO (id : Nat) (e : List AV) (ps : List Nat) (asg body : MCode) (st : LSt) (d : Nat) : Hp := [(id, .loop e ps asg body st d)]
/-- What a round leaves. -/
def roundK (idl : Nat) (e : List AV) (ps : List Nat) (asg body : MCode) (d : Nat) (Q : Ex → List AV → Heap → Prop) : Ex → List AV → Heap → Prop := fun x _ h3 =>
  ∃ R3 M3, Sep R3 (lpO idl e ps asg body .busy d :: M3) h3 ∧
    match x with
    | .normal => ∀ h4, Sep R3 (lpO idl e ps asg body .ready d :: M3) h4 → Q .ret [.sc (.bool true)] h4
    | x => ∀ h4, Sep R3 (lpO idl e ps asg body (.done x) d :: M3) h4 → Q .ret [.sc (.bool false)] h4
theorem roundK_n {idl : Nat} {e : List AV} {ps : List Nat} {asg body : MCode} {d : Nat} {e3 : List AV} {R3 : Ro} {M3 : List Hp} (hs : Sep R3 (lpO idl e ps asg body .busy d :: M3) h)
    (k : ∀ h4, Sep R3 (lpO idl e ps asg body .ready d :: M3) h4 → Q .ret [.sc (.bool true)] h4) : roundK idl e ps asg body d Q .normal e3 h := ⟨R3, M3, hs, k⟩
theorem roundK_x {idl : Nat} {e : List AV} {ps : List Nat} {asg body : MCode} {d : Nat} {e3 : List AV} {R3 : Ro} {M3 : List Hp} {j : Nat} (hs : Sep R3 (lpO idl e ps asg body .busy d :: M3) h)
    (k : ∀ h4, Sep R3 (lpO idl e ps asg body (.done (.exit j)) d :: M3) h4 → Q .ret [.sc (.bool false)] h4) : roundK idl e ps asg body d Q (.exit j) e3 h := ⟨R3, M3, hs, k⟩
theorem roundK_r {idl : Nat} {e : List AV} {ps : List Nat} {asg body : MCode} {d : Nat} {e3 : List AV} {R3 : Ro} {M3 : List Hp} (hs : Sep R3 (lpO idl e ps asg body .busy d :: M3) h)
    (k : ∀ h4, Sep R3 (lpO idl e ps asg body (.done .ret) d :: M3) h4 → Q .ret [.sc (.bool false)] h4) : roundK idl e ps asg body d Q .ret e3 h := ⟨R3, M3, hs, k⟩

theorem W_yieldS {R : Ro} {M : List Hp} {idl d : Nat} {e : List AV} {ps : List Nat} {asg body : MCode} {args : List AV} (hs : Sep R (lpO idl e ps asg body .ready d :: M) h) (hl : Nat.beq args.length ps.length = true)
    (k : W D (.code asg (setAll e ps args) h) (fun x e1 h1 => x = .normal ∧ h1 = h ∧ ∀ h2, Sep R (lpO idl e ps asg body .busy d :: M) h2 → W D (.code body e1 h2) (roundK idl e ps asg body d Q))) :
    W D (.yield idl args h) Q := by
  obtain ⟨n, x, e1, h1, hr, rfl, rfl, hb⟩ := W.out k
  have g1 : h1.get idl = some (.loop e ps asg body .ready d) := hs.at1 0 rfl
  have hs2 : Sep R (lpO idl e ps asg body .busy d :: M) (h1.set idl (.loop e ps asg body .busy d)) := hs.turn 0 _ rfl
  obtain ⟨m, y, e3, h3, hr3, R3, M3, hs3, hq⟩ := W.out (hb _ hs2)
  have g3 : h3.get idl = some (.loop e ps asg body .busy d) := hs3.at1 0 rfl
  have hl' : args.length = ps.length := Nat.eq_of_beq_eq_true hl
  have hrun : ∀ (st : LSt) (b : Bool), (match y with | .normal => (LSt.ready, true) | x => (LSt.done x, false)) = (st, b) →
      run D (Nat.max n m + 1) (.yield idl args h1) = some (.ret, [.sc (.bool b)], h3.set idl (.loop e ps asg body st d)) := by
    intro st b hst
    rw [run, g1]
    simp only [hl', if_true]
    rw [run_le (Nat.le_max_left n m) hr]
    simp only [g1]
    rw [run_le (Nat.le_max_right n m) hr3]
    simp only [g3]
    cases y <;> (simp only [Prod.mk.injEq] at hst; obtain ⟨rfl, rfl⟩ := hst; rfl)
  cases y with
  | normal => exact W_run (hrun .ready true rfl) (hq _ (hs3.turn 0 _ rfl))
  | exit j => exact W_run (hrun (.done (.exit j)) false rfl) (hq _ (hs3.turn 0 _ rfl))
  | ret => exact W_run (hrun (.done .ret) false rfl) (hq _ (hs3.turn 0 _ rfl))

/-- The statement. -/
theorem W_rangeS {R : Ro} {M : List Hp} {x : Rnd} {g : Nat} {caps : List (Nat × Nat)} {ps : List Nat} {asg body : MCode} (hs : Sep R M h) (hx : rd e x = .sc (.func g caps))
    (k : ∀ idl d h1, Sep R (lpO idl e ps asg body .ready d :: [(d, .dfr)] :: M) h1 → W D (.call g (.sc (.yieldv idl) :: caps.map fun c => .sc (.ptr c.1 c.2)) h1) (fun _ vs h2 => (∃ v, vs = [v]) ∧ ∃ R2 M2,
      (Sep R2 (lpO idl e ps asg body .ready d :: M2) h2 ∧ ∀ h3, Sep R2 M2 h3 → Q .normal e h3) ∨ ∃ y, Sep R2 (lpO idl e ps asg body (.done y) d :: M2) h2 ∧ ∀ h3, Sep R2 M2 h3 → Q y e h3)) :
    W D (.code (.rangeF x ps asg body) e h) Q := by
  have hs1 := hs.push .dfr
  have hs2 := hs1.push (.loop e ps asg body .ready h.n)
  have hn : (h.push .dfr).n = h.n + 1 := rfl
  rw [hn] at hs2
  obtain ⟨n, y, vs, h2, hr, ⟨v, rfl⟩, R2, M2, ⟨s2, hq⟩ | ⟨z, s2, hq⟩⟩ := W.out (k _ _ _ hs2)
  · have g2 : h2.get (h.n + 1) = some (.loop e ps asg body .ready h.n) := s2.at1 0 rfl
    refine W_run (n := n + 1) (x := .normal) (vs := e) (h := h2.set (h.n + 1) (.loop e ps asg body .out h.n)) ?_ (hq _ ((s2.turn 0 (.loop e ps asg body .out h.n) rfl).drop 0))
    rw [run, hx]
    simp only [hr, g2]
  · have g2 : h2.get (h.n + 1) = some (.loop e ps asg body (.done z) h.n) := s2.at1 0 rfl
    refine W_run (n := n + 1) (x := z) (vs := e) (h := h2.set (h.n + 1) (.loop e ps asg body .out h.n)) ?_ (hq _ ((s2.turn 0 (.loop e ps asg body .out h.n) rfl).drop 0))
    rw [run, hx]
    simp only [hr, g2]
attribute [irreducible] roundK
end
end Go.Jx
