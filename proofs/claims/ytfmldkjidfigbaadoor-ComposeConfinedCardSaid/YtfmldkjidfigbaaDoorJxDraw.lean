/-
  Regions that draw their order: what the text's order tells, all orders tell. Here: what is no more than lists.
-/
import Derived.Test.YtfmldkjidfigbaaDoorJxOpSim
namespace Go.Jx
open Go Go.RowKit
set_option linter.unusedSimpArgs false
set_option linter.unusedVariables false

section
variable {D : Nat → Option MFunc}

def ActDoes (D : Nat → Option MFunc) (n : Nat) (op : MOp) (e : List AV) (h : Heap) (v : AV) (h' : Heap) : Prop :=
  (isCall op = true ∧ ∃ f args k x, k < n ∧ calleeA op e = some (f, args) ∧ run D k (.call f args h) = some (x, [v], h')) ∨ (isCall op = false ∧ opA op e h = some (v, h'))

def RecOk (D : Nat → Option MFunc) (n : Nat) (d : DI) (r : Rec) (e : List AV) : Prop :=
  (wantedA e d.mi.guard = false ∧ r.on = false ∧ r.v = undefA ∧ r.h' = r.h) ∨
  (wantedA e d.mi.guard = true ∧ r.on = true ∧
    ((d.cls = 0 ∧ pureA d.mi.op e = some r.v ∧ r.h' = r.h) ∨
     (d.cls = 1 ∧ (∃ agg x, d.mi.op = .load agg x ∧ r.x = rd e x ∧ loadA agg r.x r.h = some r.v) ∧ r.h' = r.h) ∨
     (d.cls ≠ 0 ∧ d.cls ≠ 1 ∧ ActDoes D n d.mi.op e r.h r.v r.h')))

def Chain (D : Nat → Option MFunc) (n : Nat) : List DI → List Rec → List AV → Heap → List AV → Heap → Prop
  | [], [], e, h, e', h' => e' = e ∧ h' = h
  | d :: l, r :: rs, e, h, e', h' => r.h = h ∧ RecOk D n d r e ∧ Chain D n l rs (put e d.mi.dst r.v) r.h' e' h'
  | _, _, _, _, _, _ => False

theorem dops_chain : ∀ (n N : Nat), n ≤ N → ∀ (l full : List DI) (e : List AV) (h : Heap) (acc : List Rec) (x : Ex) (e' : List AV) (h' : Heap), run D n (.dops l full e h acc) = some (x, e', h') →
    ∃ rs, Chain D N l rs e h e' h' ∧ x = .normal ∧ checkLoads (acc.reverse ++ rs) full (acc.reverse ++ rs) = true := by
  intro n
  induction n with
  | zero => intro N _ l full e h acc x e' h' hr; simp [run] at hr
  | succ n ih =>
    intro N hN l full e h acc x e' h' hr
    cases l with
    | nil =>
      simp only [run] at hr
      split at hr
      · rename_i hc
        simp only [Option.some.injEq, Prod.mk.injEq] at hr
        obtain ⟨rfl, rfl, rfl⟩ := hr
        exact ⟨[], ⟨rfl, rfl⟩, rfl, by simpa using hc⟩
      · cases hr
    | cons d l =>
      have go : ∀ (r : Rec), r.h = h → RecOk D N d r e → run D n (.dops l full (put e d.mi.dst r.v) r.h' (r :: acc)) = some (x, e', h') →
          ∃ rs, Chain D N (d :: l) rs e h e' h' ∧ x = .normal ∧ checkLoads (acc.reverse ++ rs) full (acc.reverse ++ rs) = true := by
        intro r h1 h2 h3
        obtain ⟨rs, c1, c2, c3⟩ := ih N (by omega) l full _ _ _ x e' h' h3
        exact ⟨r :: rs, ⟨h1, h2, c1⟩, c2, by simpa using c3⟩
      simp only [run] at hr
      split at hr
      · rename_i hw
        exact go ⟨false, undefA, undefA, h, h⟩ rfl (.inl ⟨hw, rfl, rfl, rfl⟩) hr
      · rename_i hw
        split at hr
        · rename_i hc
          split at hr
          · rename_i v hv
            exact go ⟨true, v, undefA, h, h⟩ rfl (.inr ⟨hw, rfl, .inl ⟨hc, hv, rfl⟩⟩) hr
          · cases hr
        · rename_i hc
          split at hr
          · rename_i agg xx hop
            split at hr
            · rename_i v hv
              exact go ⟨true, v, rd e xx, h, h⟩ rfl (.inr ⟨hw, rfl, .inr (.inl ⟨hc, ⟨agg, xx, hop, rfl, hv⟩, rfl⟩)⟩) hr
            · cases hr
          · cases hr
        · rename_i hc0 hc1
          split at hr
          · rename_i hcall
            split at hr
            · rename_i f args hcal
              split at hr
              · rename_i x1 v h1 hrun
                exact go ⟨true, v, undefA, h, h1⟩ rfl (.inr ⟨hw, rfl, .inr (.inr ⟨hc0, hc1, .inl ⟨hcall, f, args, n, x1, by omega, hcal, hrun⟩⟩)⟩) hr
              · cases hr
            · cases hr
          · rename_i hcall
            split at hr
            · rename_i v h1 hop
              exact go ⟨true, v, undefA, h, h1⟩ rfl (.inr ⟨hw, rfl, .inr (.inr ⟨hc0, hc1, .inr ⟨hcall, hop⟩⟩)⟩) hr
            · cases hr

/-! ### what is in the slots, and what memory there is, when some operations have been carried out -/

def envP (p : Nat → Bool) : List DI → List Rec → Nat → List AV → List AV
  | d :: l, r :: rs, k, e => envP p l rs (k + 1) (if p k then put e d.mi.dst r.v else e)
  | _, _, _, e => e

def isAct (d : DI) : Bool := d.cls != 0 && d.cls != 1

def curP (p : Nat → Bool) : List DI → List Rec → Nat → Heap → Heap
  | d :: l, r :: rs, k, h => curP p l rs (k + 1) (if isAct d && p k then r.h' else h)
  | _, _, _, h => h

theorem put_length (e : List AV) (d : Option Nat) (v : AV) : (put e d v).length = e.length := by cases d <;> simp [put]
theorem put_get_ne {e : List AV} {d : Option Nat} {v : AV} {x : Nat} (h : d ≠ some x) : (put e d v).getD x undefA = e.getD x undefA := by
  cases d with
  | none => rfl
  | some y =>
    have : y ≠ x := fun hh => h (by rw [hh])
    simp [put, List.getD, List.getElem?_set, this]
theorem put_get_eq {e e' : List AV} {v : AV} {x : Nat} (h : e.length = e'.length) : (put e (some x) v).getD x undefA = (put e' (some x) v).getD x undefA := by
  simp [put, List.getD, List.getElem?_set, h]

theorem envP_length (p : Nat → Bool) : ∀ (l : List DI) (rs : List Rec) (k : Nat) (e : List AV), (envP p l rs k e).length = e.length
  | [], _, _, _ => by simp [envP]
  | _ :: _, [], _, _ => by simp [envP]
  | d :: l, r :: rs, k, e => by
    simp only [envP]
    rw [envP_length p l rs]
    split
    · exact put_length _ _ _
    · rfl

theorem envP_agree (p q : Nat → Bool) (x : Nat) : ∀ (l : List DI) (rs : List Rec) (k : Nat) (e e' : List AV), (∀ (j : Nat) (d : DI), l[j]? = some d → d.mi.dst = some x → p (k + j) = q (k + j)) → e.length = e'.length → e.getD x undefA = e'.getD x undefA →
    (envP p l rs k e).getD x undefA = (envP q l rs k e').getD x undefA
  | [], _, _, _, _, _, _, h => by simpa [envP] using h
  | _ :: _, [], _, _, _, _, _, h => by simpa [envP] using h
  | d :: l, r :: rs, k, e, e', hp, hl, h => by
    simp only [envP]
    refine envP_agree p q x l rs (k + 1) _ _ (fun j d' hj hd => ?_) ?_ ?_
    · have := hp (j + 1) d' (by simpa using hj) hd
      rw [show k + 1 + j = k + (j + 1) by omega]; exact this
    · split <;> split <;> simp [put_length, hl]
    · by_cases hd : d.mi.dst = some x
      · have := hp 0 d rfl hd
        simp only [Nat.add_zero] at this
        rw [this, hd]
        split
        · exact put_get_eq hl
        · exact h
      · split <;> split <;> simp only [put_get_ne hd, h]

theorem envP_none (p : Nat → Bool) : ∀ (l : List DI) (rs : List Rec) (k : Nat) (e : List AV), (∀ j, j < l.length → p (k + j) = false) → envP p l rs k e = e
  | [], _, _, _, _ => by simp [envP]
  | _ :: _, [], _, _, _ => by simp [envP]
  | d :: l, r :: rs, k, e, hp => by
    have h0 := hp 0 (by simp)
    simp only [Nat.add_zero] at h0
    simp only [envP, h0, Bool.false_eq_true, if_false]
    exact envP_none p l rs (k + 1) e fun j hj => by
      have := hp (j + 1) (by simp; omega)
      rw [show k + 1 + j = k + (j + 1) by omega]; exact this

theorem envP_single : ∀ (l : List DI) (rs : List Rec) (k i : Nat) (e : List AV) (d : DI) (r : Rec), l[i]? = some d → rs[i]? = some r → envP (fun j => j == k + i) l rs k e = put e d.mi.dst r.v
  | [], _, _, _, _, _, _, h, _ => by simp at h
  | _ :: _, [], _, _, _, _, _, _, h => by simp at h
  | d :: l, r :: rs, k, 0, e, d', r', h1, h2 => by
    simp only [List.getElem?_cons_zero, Option.some.injEq] at h1 h2
    subst h1; subst h2
    simp only [envP, Nat.add_zero, beq_self_eq_true, if_true]
    exact envP_none _ l rs (k + 1) _ fun j hj => by simp; omega
  | d :: l, r :: rs, k, i + 1, e, d', r', h1, h2 => by
    simp only [List.getElem?_cons_succ] at h1 h2
    simp only [envP]
    have hk : (k == k + (i + 1)) = false := by simp
    rw [if_neg (by rw [hk]; simp)]
    have := envP_single l rs (k + 1) i e d' r' h1 h2
    rw [show k + 1 + i = k + (i + 1) by omega] at this
    exact this

theorem curP_agree (p q : Nat → Bool) : ∀ (l : List DI) (rs : List Rec) (k : Nat) (h : Heap), (∀ (j : Nat) (d : DI), l[j]? = some d → isAct d = true → p (k + j) = q (k + j)) → curP p l rs k h = curP q l rs k h
  | [], _, _, _, _ => by simp [curP]
  | _ :: _, [], _, _, _ => by simp [curP]
  | d :: l, r :: rs, k, h, hp => by
    simp only [curP]
    have h1 : (isAct d && p k) = (isAct d && q k) := by
      cases ha : isAct d with
      | false => rfl
      | true => have := hp 0 d rfl ha; simpa using this
    rw [h1]
    exact curP_agree p q l rs (k + 1) _ fun j d' hj ha => by
      have := hp (j + 1) d' (by simpa using hj) ha
      rw [show k + 1 + j = k + (j + 1) by omega]; exact this

theorem curP_none (p : Nat → Bool) : ∀ (l : List DI) (rs : List Rec) (k : Nat) (h : Heap), (∀ j, j < l.length → p (k + j) = false) → curP p l rs k h = h
  | [], _, _, _, _ => by simp [curP]
  | _ :: _, [], _, _, _ => by simp [curP]
  | d :: l, r :: rs, k, h, hp => by
    have h0 := hp 0 (by simp)
    simp only [Nat.add_zero] at h0
    simp only [curP, h0, Bool.and_false, Bool.false_eq_true, if_false]
    exact curP_none p l rs (k + 1) h fun j hj => by
      have := hp (j + 1) (by simp; omega)
      rw [show k + 1 + j = k + (j + 1) by omega]; exact this

/-- What the text's order shows of operation i. -/
theorem chain_get {N : Nat} : ∀ (l : List DI) (rs : List Rec) (k i : Nat) (e : List AV) (h : Heap) (e' : List AV) (h' : Heap) (d : DI), Chain D N l rs e h e' h' → l[i]? = some d →
    ∃ r, rs[i]? = some r ∧ RecOk D N d r (envP (fun j => decide (j < k + i)) l rs k e) ∧ r.h = curP (fun j => decide (j < k + i)) l rs k h ∧ r.h' = curP (fun j => decide (j < k + i + 1)) l rs k h
  | [], _, _, _, _, _, _, _, _, _, hd => by simp at hd
  | _ :: _, [], _, _, _, _, _, _, _, hc, _ => hc.elim
  | d :: l, r :: rs, k, 0, e, h, e', h', d', hc, hd => by
    simp only [List.getElem?_cons_zero, Option.some.injEq] at hd
    subst hd
    obtain ⟨h1, h2, h3⟩ := hc
    refine ⟨r, rfl, ?_, ?_, ?_⟩
    · rw [envP_none _ _ _ _ _ fun j hj => by simp]; exact h2
    · rw [curP_none _ _ _ _ _ fun j hj => by simp]; exact h1
    · simp only [curP, Nat.add_zero, Nat.lt_add_one, decide_true, Bool.and_true]
      rw [curP_none _ l rs (k + 1) _ fun j hj => by rw [decide_eq_false_iff_not]; omega]
      split
      · rfl
      · rename_i ha
        rcases h2 with ⟨_, _, _, h2⟩ | ⟨_, _, ⟨_, _, h2⟩ | ⟨_, _, h2⟩ | ⟨a1, a2, _⟩⟩
        · rw [h2, h1]
        · rw [h2, h1]
        · rw [h2, h1]
        · simp [isAct, a1, a2] at ha
  | d :: l, r :: rs, k, i + 1, e, h, e', h', d', hc, hd => by
    simp only [List.getElem?_cons_succ] at hd
    obtain ⟨h1, h2, h3⟩ := hc
    obtain ⟨r', q1, q2, q3, q4⟩ := chain_get l rs (k + 1) i (put e d.mi.dst r.v) r.h' e' h' d' h3 hd
    have hcur : (if (isAct d && true) = true then r.h' else h) = r.h' := by
      split
      · rfl
      · rename_i ha
        rcases h2 with ⟨_, _, _, h2⟩ | ⟨_, _, ⟨_, _, h2⟩ | ⟨_, _, h2⟩ | ⟨a1, a2, _⟩⟩
        · rw [h2, h1]
        · rw [h2, h1]
        · rw [h2, h1]
        · simp [isAct, a1, a2] at ha
    have e1 : k + 1 + i = k + (i + 1) := by omega
    rw [e1] at q2 q3 q4
    have hk1 : decide (k < k + (i + 1)) = true := by simp
    have hk2 : decide (k < k + (i + 1) + 1) = true := by rw [decide_eq_true_eq]; omega
    refine ⟨r', by simpa using q1, ?_, ?_, ?_⟩
    · simp only [envP, hk1, if_true]; exact q2
    · simp only [curP, hk1, hcur]; exact q3
    · simp only [curP, hk2, hcur]; exact q4

theorem chain_end {N : Nat} : ∀ (l : List DI) (rs : List Rec) (k : Nat) (e : List AV) (h : Heap) (e' : List AV) (h' : Heap), Chain D N l rs e h e' h' → e' = envP (fun _ => true) l rs k e ∧ h' = curP (fun _ => true) l rs k h ∧ rs.length = l.length
  | [], [], _, _, _, _, _, hc => by obtain ⟨h1, h2⟩ := hc; exact ⟨h1, h2, rfl⟩
  | [], _ :: _, _, _, _, _, _, hc => hc.elim
  | _ :: _, [], _, _, _, _, _, hc => hc.elim
  | d :: l, r :: rs, k, e, h, e', h', hc => by
    obtain ⟨h1, h2, h3⟩ := hc
    obtain ⟨q1, q2, q3⟩ := chain_end l rs (k + 1) _ _ e' h' h3
    refine ⟨by simpa [envP] using q1, ?_, by simp [q3]⟩
    have hcur : (if (isAct d && true) = true then r.h' else h) = r.h' := by
      split
      · rfl
      · rename_i ha
        rcases h2 with ⟨_, _, _, h2⟩ | ⟨_, _, ⟨_, _, h2⟩ | ⟨_, _, h2⟩ | ⟨a1, a2, _⟩⟩
        · rw [h2, h1]
        · rw [h2, h1]
        · rw [h2, h1]
        · simp [isAct, a1, a2] at ha
    simp only [curP, hcur]; exact q2

theorem sameAV_eq {u v : AV} (h : sameAV u v = true) : u = v := by
  unfold sameAV at h
  split at h
  · simp only [decide_eq_true_eq] at h; rw [h]
  · simp only [decide_eq_true_eq] at h; rw [h]
  · cases h

theorem loadIs_eq {agg : Option Nat} {x0 : Rnd} {x : AV} {h : Heap} {v : AV} (hh : loadIs (.load agg x0) x h v = true) : loadA agg x h = some v := by
  simp only [loadIs] at hh
  split at hh
  · rename_i u hu; rw [hu, sameAV_eq hh]
  · cases hh

/-- What was checked of operation i's load. -/
theorem check_get (recs : List Rec) : ∀ (l : List DI) (rs : List Rec) (i : Nat) (d : DI) (r : Rec), checkLoads recs l rs = true → l[i]? = some d → rs[i]? = some r → d.cls = 1 → r.on = true →
    (∀ j ∈ d.lo, ∃ q, recs[j]? = some q ∧ loadIs d.mi.op r.x q.h r.v = true) ∧ (∀ j ∈ d.hi, ∃ q, recs[j]? = some q ∧ loadIs d.mi.op r.x q.h' r.v = true)
  | [], _, _, _, _, _, h, _, _, _ => by simp at h
  | _ :: _, [], _, _, _, _, _, h, _, _ => by simp at h
  | d :: l, r :: rs, 0, d', r', hc, h1, h2, hcl, hon => by
    simp only [List.getElem?_cons_zero, Option.some.injEq] at h1 h2
    subst h1; subst h2
    simp only [checkLoads, hcl, hon, bne_self_eq_false, Bool.not_true, Bool.false_or, Bool.and_eq_true, List.all_eq_true] at hc
    refine ⟨fun j hj => ?_, fun j hj => ?_⟩
    · have := hc.1.1 j hj
      split at this
      · rename_i q hq; exact ⟨q, hq, this⟩
      · cases this
    · have := hc.1.2 j hj
      split at this
      · rename_i q hq; exact ⟨q, hq, this⟩
      · cases this
  | d :: l, r :: rs, i + 1, d', r', hc, h1, h2, hcl, hon => by
    simp only [List.getElem?_cons_succ] at h1 h2
    simp only [checkLoads, Bool.and_eq_true] at hc
    exact check_get recs l rs i d' r' hc.2 h1 h2 hcl hon

end
end Go.Jx
