/-
  Walking, second part: many plain steps at once; memory; lists of elements.
-/
import Derived.Test.YtfmldkjidfigbaaDoorJxW
import Derived.Test.YtfmldkjidfigbaaDoorJxOpen
set_option linter.unusedVariables false
set_option linter.unusedSimpArgs false
namespace Go.Jx
open Go

/-! ## many plain steps at once -/

abbrev StepR := Option (List AV × List MI)

/-- A slot is set, and the whole list is spelt. -/
def setK : List AV → Nat → AV → (List AV → StepR) → StepR
  | [], _, _, k => k []
  | _ :: l, 0, v, k => k (v :: l)
  | a :: l, d + 1, v, k => setK l d v (fun l' => k (a :: l'))

theorem setK_eq : ∀ (l : List AV) (d : Nat) (v : AV) (k : List AV → StepR), setK l d v k = k (l.set d v)
  | [], d, v, k => rfl
  | _ :: l, 0, v, k => rfl
  | a :: l, d + 1, v, k => by rw [setK, setK_eq l]; rfl

def putK (e : List AV) (dst : Option Nat) (v : AV) (k : List AV → StepR) : StepR :=
  match dst with
  | some d => setK e d v k
  | none => k e
theorem putK_eq (e : List AV) (dst : Option Nat) (v : AV) (k : List AV → StepR) : putK e dst v k = k (put e dst v) := by
  cases dst with
  | none => rfl
  | some d => exact setK_eq e d v k

def forceV : AV → (AV → Option (List AV × List MI)) → Option (List AV × List MI)
  | .sc s, k => k (.sc s)
  | .agg cs, k => k (.agg cs)
  | .tup vs, k => k (.tup vs)

theorem forceV_eq (v : AV) (k : AV → Option (List AV × List MI)) : forceV v k = k v := by cases v <;> rfl

def cmpOp : BinOp → Bool
  | .eql | .neq | .lss | .leq | .gtr | .geq => true
  | _ => false

def isFast (i : MI) : Bool :=
  match i.guard with
  | some _ => false
  | none =>
    match i.op with
    | .move _ | .extract _ _ | .same _ | .lenArr _ | .lenStr _ | .nilCheck _ | .fieldAddr _ _ | .field _ _ _ | .build _ _ | .makeFunc _ _ => true
    | .bin op .no _ _ => cmpOp op
    | .bin op .bool _ _ => cmpOp op
    | .un .not _ => true
    | _ => false

def steps : List MI → List AV → StepR
  | [], e => some (e, [])
  | i :: r, e =>
    match isFast i with
    | true => (match pureA i.op e with | some v => forceV v (fun v => putK e i.dst v (fun e' => steps r e')) | none => none)
    | false => some (e, i :: r)

def steps1 : List MI → List AV → StepR
  | [], _ => none
  | i :: r, e =>
    match isFast i with
    | true => (match pureA i.op e with | some v => forceV v (fun v => putK e i.dst v (fun e' => steps r e')) | none => none)
    | false => none

variable {D : Nat → Option MFunc} {Q : Ex → List AV → Heap → Prop} {e : List AV} {h : Heap} {dst : Option Nat} {r : List MI}

theorem isFast_spec {i : MI} (hf : isFast i = true) : i.guard = none ∧ isCall i.op = false ∧ ∀ e h, opA i.op e h = (pureA i.op e).map fun v => (v, h) := by
  obtain ⟨d, op, g⟩ := i
  cases g with
  | some x => simp [isFast] at hf
  | none =>
    refine ⟨rfl, ?_⟩
    cases op <;> simp only [isFast] at hf <;> first | exact ⟨rfl, fun _ _ => rfl⟩ | (exact absurd hf (by simp))

theorem W_steps : ∀ {l : List MI} {e e' : List AV} {r : List MI}, steps l e = some (e', r) → W D (.ops r e' h) Q → W D (.ops l e h) Q := by
  intro l
  induction l with
  | nil => intro e e' r hs k; simp only [steps, Option.some.injEq, Prod.mk.injEq] at hs; obtain ⟨rfl, rfl⟩ := hs; exact k
  | cons i l ih =>
    intro e e' r hs k
    rw [steps] at hs
    split at hs
    · rename_i hf
      obtain ⟨h1, h2, h3⟩ := isFast_spec hf
      split at hs
      · rename_i v hv
        rw [forceV_eq, putK_eq] at hs
        have := ih hs k
        obtain ⟨d, op, g⟩ := i
        simp only at h1 h2 h3 hv this
        subst h1
        exact W_act h2 (by rw [h3, hv]; rfl) this
      · cases hs
    · simp only [Option.some.injEq, Prod.mk.injEq] at hs; obtain ⟨rfl, rfl⟩ := hs; exact k

theorem W_fast {l : List MI} {e' : List AV} (hs : steps1 l e = some (e', r)) (k : W D (.ops r e' h) Q) : W D (.ops l e h) Q := by
  cases l with
  | nil => cases hs
  | cons i l =>
    rw [steps1] at hs
    split at hs
    · rename_i hf
      exact W_steps (l := i :: l) (by rw [steps, hf]; exact hs) k
    · cases hs

/-- An operation whose answer computing tells. -/
theorem W_det {op : MOp} {v : AV} {h' : Heap} (hc : isCall op = false) (ho : opA op e h = some (v, h')) (k : W D (.ops r (put e dst v) h') Q) : W D (.ops (⟨dst, op, none⟩ :: r) e h) Q := W_act hc ho k

/-- A middle. -/
theorem W_mid {a b : MCode} (R : Ex → List AV → Heap → Prop) (h1 : W D (.code a e h) R) (h2 : ∀ x e' h', R x e' h' → seqK D b Q x e' h') : W D (.code (.seq a b) e h) Q := W_seq (h1.mono h2)

/-! ## regions that draw their order, but no load of which may float -/

theorem isPure_spec {op : MOp} (hp : isPure op = true) : isCall op = false ∧ ∀ e h, opA op e h = (pureA op e).map fun v => (v, h) := by
  cases op with
  | conv c x =>
    cases c with
    | int k =>
      refine ⟨rfl, fun e h => ?_⟩
      show (match rd e x with | .sc (.int _ n) => some (AV.sc (.int k (k.wrap n)), h) | _ => none) = Option.map _ (match rd e x with | .sc (.int _ n) => some (AV.sc (.int k (k.wrap n))) | _ => none)
      split <;> rfl
    | _ => exact absurd hp (by simp [isPure])
  | _ => first | exact ⟨rfl, fun _ _ => rfl⟩ | (exact absurd hp (by simp [isPure]))

def plainDI (d : DI) : Bool := (d.cls == clsOf d.mi.op) && (d.cls != 1 || (d.lo.isEmpty && d.hi.isEmpty))

theorem checkLoads_plain (recs : List Rec) : ∀ (l : List DI) (rs : List Rec), l.all plainDI = true → checkLoads recs l rs = true
  | [], rs, _ => by unfold checkLoads; rfl
  | d :: l, [], _ => by unfold checkLoads; rfl
  | d :: l, r :: rs, hl => by
    rw [List.all_cons, Bool.and_eq_true] at hl
    unfold checkLoads
    rw [checkLoads_plain recs l rs hl.2]
    have h1 := hl.1
    simp only [plainDI, Bool.and_eq_true, Bool.or_eq_true, List.isEmpty_iff] at h1
    rcases h1.2 with h2 | ⟨h2, h3⟩
    · simp [h2]
    · simp [h2, h3]

theorem dops_of_ops : ∀ (n : Nat) (l full : List DI) (e : List AV) (h : Heap) (acc : List Rec) (out : Out), l.all plainDI = true → full.all plainDI = true →
    run D n (.ops (l.map (·.mi)) e h) = some out → run D n (.dops l full e h acc) = some out := by
  intro n
  induction n with
  | zero => intro l full e h acc out _ _ hr; simp [run] at hr
  | succ n ih =>
    intro l full e h acc out hl hf hr
    cases l with
    | nil =>
      simp only [List.map_nil, run] at hr ⊢
      rw [checkLoads_plain _ _ _ hf]; simpa using hr
    | cons d l =>
      rw [List.all_cons, Bool.and_eq_true] at hl
      obtain ⟨hd, hl⟩ := hl
      simp only [List.map_cons, run] at hr ⊢
      split at hr
      · rename_i hw; exact ih _ _ _ _ _ _ hl hf hr
      · rename_i hw
        have hc : d.cls = clsOf d.mi.op := by simp only [plainDI, Bool.and_eq_true, beq_iff_eq] at hd; exact hd.1
        rw [hc]
        cases hp : isPure d.mi.op with
        | true =>
          obtain ⟨h1, h2⟩ := isPure_spec hp
          have : clsOf d.mi.op = 0 := by unfold clsOf; rw [hp]; rfl
          rw [this]
          simp only
          rw [h1, h2] at hr
          simp only at hr
          cases hv : pureA d.mi.op e with
          | none => rw [hv] at hr; cases hr
          | some v => rw [hv] at hr; exact ih _ _ _ _ _ _ hl hf hr
        | false =>
          by_cases hld : ∃ g x, d.mi.op = .load g x
          · obtain ⟨g, x, hld⟩ := hld
            have : clsOf d.mi.op = 1 := by unfold clsOf; rw [hp, hld]; rfl
            rw [this, hld]
            rw [hld] at hr
            simp only [isCall, opA] at hr ⊢
            cases hv : loadA g (rd e x) h with
            | none => rw [hv] at hr; cases hr
            | some v => rw [hv] at hr; exact ih _ _ _ _ _ _ hl hf hr
          · have : clsOf d.mi.op = 2 := by
              unfold clsOf; rw [hp]
              simp only [Bool.false_eq_true, if_false]
              try split
              · rename_i g x hh; exact absurd ⟨g, x, hh⟩ hld
              · rfl
            rw [this]
            simp only
            split at hr
            · rename_i hcl
              split at hr
              · rename_i f args hca
                split at hr
                · rename_i hrun
                  first | exact ih _ _ _ _ _ _ hl hf hr | (rw [hrun]; exact ih _ _ _ _ _ _ hl hf hr)
                · cases hr
              · cases hr
            · rename_i hcl
              split at hr
              · rename_i hop
                exact ih _ _ _ _ _ _ hl hf hr
              · cases hr

theorem W_draw {l : List DI} (hl : l.all plainDI = true) (k : W D (.ops (l.map (·.mi)) e h) Q) : W D (.code (.draw l) e h) Q := by
  obtain ⟨n, x, vs, h', hr, hq⟩ := W.out k
  exact W_run (n := n + 1) (by rw [run]; exact dops_of_ops n l l e h [] _ hl hl hr) hq

/-! ## memory -/

theorem Heap.get_set_eq {h : Heap} {id : Nat} {o o' : AO} (hg : h.get id = some o) : (h.set id o').get id = some o' := by
  have hlt := Heap.get_lt hg
  unfold Heap.get at hg ⊢
  rw [if_pos hlt] at hg
  have := (List.getElem?_eq_some_iff.1 hg).1
  unfold Heap.set
  rw [if_pos hlt]
  simp [hlt, this]
theorem Heap.get_set_ne {h : Heap} {id j : Nat} {o' : AO} (hj : j ≠ id) : (h.set id o').get j = h.get j := by
  unfold Heap.set
  by_cases l : id < h.n
  · simp only [l, if_true, Heap.get]
    by_cases lj : j < h.n
    · have : ¬ (h.n - 1 - id = h.n - 1 - j) := by omega
      simp [lj, this]
    · simp [lj]
  · simp [l]

theorem W_load_sc {x : Rnd} {id off : Nat} {t : TypeId} {kd : Kind} {cs : List SV} {s : SV} (hx : rd e x = .sc (.ptr id off)) (hg : h.get id = some (.cells t kd cs)) (hc : cs[off]? = some s) (k : W D (.ops r (put e dst (.sc s)) h) Q) :
    W D (.ops (⟨dst, .load none x, none⟩ :: r) e h) Q :=
  W_act rfl (v := .sc s) (h' := h) (by show (loadA none (rd e x) h).map _ = _; rw [hx]; simp only [loadA, hg, partA, hc, Option.map_some]) k
theorem W_load_agg {x : Rnd} {id off n : Nat} {t : TypeId} {kd : Kind} {cs vs : List SV} (hx : rd e x = .sc (.ptr id off)) (hg : h.get id = some (.cells t kd cs)) (hc : readN cs off n = some vs) (k : W D (.ops r (put e dst (.agg vs)) h) Q) :
    W D (.ops (⟨dst, .load (some n) x, none⟩ :: r) e h) Q :=
  W_act rfl (v := .agg vs) (h' := h) (by show (loadA (some n) (rd e x) h).map _ = _; rw [hx]; simp only [loadA, hg, partA, hc, Option.map_some]) k
theorem W_store {size : Nat} {x y : Rnd} {id off : Nat} {t : TypeId} {kd : Kind} {cs cs' vs : List SV} {v : AV} (hx : rd e x = .sc (.ptr id off)) (hy : rd e y = v) (hv : cellsOfAV v = some vs) (hg : h.get id = some (.cells t kd cs)) (hk : kd ≠ .ro) (hn : vs.length = size)
    (hc : writeN cs off vs = some cs') (k : W D (.ops r (put e dst undefA) (h.set id (.cells t kd cs'))) Q) : W D (.ops (⟨dst, .store size x y, none⟩ :: r) e h) Q :=
  W_act rfl (v := undefA) (h' := h.set id (.cells t kd cs')) (by show (storeA size (rd e x) (rd e y) h).map _ = _; rw [hx, hy]; simp only [storeA, hg, hv]; rw [if_pos ⟨hn, hk⟩, hc]; rfl) k
theorem W_alloc {t : TypeId} {z : List SV} (k : W D (.ops r (put e dst (.sc (.ptr h.n 0))) (h.push (.cells t .own z))) Q) : W D (.ops (⟨dst, .alloc t z, none⟩ :: r) e h) Q := W_act rfl rfl k
theorem W_indexSlice {size : Nat} {x i : Rnd} {id off len cap : Nat} {kd : IntKind} {n : Int} (hx : rd e x = .sc (.slice id off len cap)) (hi : rd e i = .sc (.int kd n)) (hn : 0 ≤ n ∧ n < (len : Int))
    (k : W D (.ops r (put e dst (.sc (.ptr id (off + n.toNat * size)))) h) Q) : W D (.ops (⟨dst, .indexSlice size x i, none⟩ :: r) e h) Q :=
  W_act rfl (v := .sc (.ptr id (off + n.toNat * size))) (h' := h) (by
    show (match rd e x with | .sc (.slice id off len _) => (idxA len (rd e i)).map fun k => AV.sc (.ptr id (off + k * size)) | _ => none).map _ = _
    rw [hx, hi]; simp only [idxA, if_pos hn, Option.map_some]) k
theorem W_indexArr {size len : Nat} {x i : Rnd} {id off : Nat} {kd : IntKind} {n : Int} (hx : rd e x = .sc (.ptr id off)) (hi : rd e i = .sc (.int kd n)) (hn : 0 ≤ n ∧ n < (len : Int))
    (k : W D (.ops r (put e dst (.sc (.ptr id (off + n.toNat * size)))) h) Q) : W D (.ops (⟨dst, .indexArr len size x i, none⟩ :: r) e h) Q :=
  W_act rfl (v := .sc (.ptr id (off + n.toNat * size))) (h' := h) (by
    show (match rd e x with | .sc (.ptr id off) => (idxA len (rd e i)).map fun k => AV.sc (.ptr id (off + k * size)) | _ => none).map _ = _
    rw [hx, hi]; simp only [idxA, if_pos hn, Option.map_some]) k
theorem W_buildSlice {t : TypeId} {size len : Nat} {zero cs : List SV} {parts : List (Nat × Nat × Rnd)} (hf : fillA (zerosA zero len) (parts.map fun p => (p.1, p.2.1, rd e p.2.2)) = some cs)
    (k : W D (.ops r (put e dst (.sc (.slice h.n 0 len len))) (h.push (.cells t .own cs))) Q) : W D (.ops (⟨dst, .buildSlice t size len zero parts, none⟩ :: r) e h) Q :=
  W_act rfl (by show (fillA _ _).map _ = _; rw [hf]; rfl) k

section bits
variable {q : EqQ} {x y : Rnd} {k j : IntKind} {a b : Int}
theorem W_shr (hx : rd e x = .sc (.int k a)) (hy : rd e y = .sc (.int j b)) (hb : 0 ≤ b) (K : W D (.ops r (put e dst (.sc (.int k (a.fdiv (2 ^ (Min.min b.toNat k.bits)))))) h) Q) : W D (.ops (⟨dst, .bin .shr q x y, none⟩ :: r) e h) Q :=
  W_bin hx hy (by show shiftA .shr k a b = _; unfold shiftA; rw [if_neg (by omega)]) K
theorem W_shl (hx : rd e x = .sc (.int k a)) (hy : rd e y = .sc (.int j b)) (hb : 0 ≤ b) (K : W D (.ops r (put e dst (.sc (.int k (k.wrap (a * 2 ^ (Min.min b.toNat k.bits)))))) h) Q) : W D (.ops (⟨dst, .bin .shl q x y, none⟩ :: r) e h) Q :=
  W_bin hx hy (by show shiftA .shl k a b = _; unfold shiftA; rw [if_neg (by omega)]) K
theorem W_and (hx : rd e x = .sc (.int k a)) (hy : rd e y = .sc (.int k b)) (K : W D (.ops r (put e dst (.sc (.int k (k.wrap (BitVec.ofInt k.bits a &&& BitVec.ofInt k.bits b).toNat)))) h) Q) : W D (.ops (⟨dst, .bin .and q x y, none⟩ :: r) e h) Q :=
  W_bin hx hy (by rw [binA_int rfl]; rfl) K
theorem W_or (hx : rd e x = .sc (.int k a)) (hy : rd e y = .sc (.int k b)) (K : W D (.ops r (put e dst (.sc (.int k (k.wrap (BitVec.ofInt k.bits a ||| BitVec.ofInt k.bits b).toNat)))) h) Q) : W D (.ops (⟨dst, .bin .or q x y, none⟩ :: r) e h) Q :=
  W_bin hx hy (by rw [binA_int rfl]; rfl) K
/-- Halves and the like, of what is not below 0. -/
theorem W_div (hx : rd e x = .sc (.int .i64 a)) (hy : rd e y = .sc (.int .i64 b)) (h0 : 0 ≤ a ∧ 0 < b ∧ a ≤ 9223372036854775807) (K : W D (.ops r (put e dst (.sc (.int .i64 (a / b)))) h) Q) : W D (.ops (⟨dst, .bin .quo q x y, none⟩ :: r) e h) Q :=
  W_quo hx hy (by omega) (by
    rw [Int.tdiv_eq_ediv_of_nonneg h0.1]
    have h1 := Int.ediv_le_self b h0.1
    have h2 := Int.ediv_nonneg h0.1 (show 0 ≤ b by omega)
    exact IntWalk.i64_in _ (by omega)) K
theorem W_mod (hx : rd e x = .sc (.int k a)) (hy : rd e y = .sc (.int k b)) (h0 : 0 ≤ a ∧ 0 < b) (K : W D (.ops r (put e dst (.sc (.int k (a % b)))) h) Q) : W D (.ops (⟨dst, .bin .rem q x y, none⟩ :: r) e h) Q :=
  W_rem hx hy (by omega) (by rw [Int.tmod_eq_emod_of_nonneg h0.1]; exact K)
end bits

/-! ## lists of elements -/

theorem flatten_getElem? {n : Nat} : ∀ {L : List (List SV)} {i j : Nat}, (∀ c ∈ L, c.length = n) → j < n → L.flatten[i * n + j]? = (L[i]?).bind (·[j]?)
  | [], i, j, h, hj => by simp
  | c :: L, 0, j, h, hj => by
    have := h c (by simp)
    simp [List.getElem?_append_left (show j < c.length by omega)]
  | c :: L, i + 1, j, h, hj => by
    have hc := h c (by simp)
    rw [List.flatten_cons, List.getElem?_append_right (by rw [hc, Nat.succ_mul]; omega), hc, show (i + 1) * n + j - n = i * n + j by rw [Nat.succ_mul]; omega, flatten_getElem? (fun c hc => h c (by simp [hc])) hj]
    simp

theorem flatten_length {n : Nat} : ∀ {L : List (List SV)}, (∀ c ∈ L, c.length = n) → L.flatten.length = L.length * n
  | [], h => by simp
  | c :: L, h => by
    rw [List.flatten_cons, List.length_append, h c (by simp), flatten_length fun c hc => h c (by simp [hc]), List.length_cons, Nat.succ_mul]; omega

theorem flatten_drop {n : Nat} : ∀ {L : List (List SV)} {i : Nat}, (∀ c ∈ L, c.length = n) → L.flatten.drop (i * n) = (L.drop i).flatten
  | [], i, h => by simp
  | c :: L, 0, h => by simp
  | c :: L, i + 1, h => by
    have hc := h c (by simp)
    rw [List.flatten_cons, Nat.succ_mul, Nat.add_comm, ← List.drop_drop, ← hc, List.drop_left, hc, flatten_drop fun c hc => h c (by simp [hc])]
    simp

theorem flatten_take {n : Nat} : ∀ {L : List (List SV)} {i : Nat}, (∀ c ∈ L, c.length = n) → L.flatten.take (i * n) = (L.take i).flatten
  | [], i, h => by simp
  | c :: L, 0, h => by simp
  | c :: L, i + 1, h => by
    have hc := h c (by simp)
    rw [List.flatten_cons, Nat.succ_mul, Nat.add_comm, List.take_add, ← hc, List.take_left, List.drop_left, hc, flatten_take fun c hc => h c (by simp [hc])]
    simp

theorem readN_some {cs : List SV} {off n : Nat} (h : off + n ≤ cs.length) : readN cs off n = some ((cs.drop off).take n) := by unfold readN; rw [if_pos h]

/-- The element at a place, of elements of n cells. -/
theorem readN_flatten {n : Nat} {L : List (List SV)} {i : Nat} {c : List SV} (hL : ∀ c ∈ L, c.length = n) (hc : L[i]? = some c) : readN L.flatten (i * n) n = some c := by
  obtain ⟨hi, rfl⟩ := List.getElem?_eq_some_iff.1 hc
  have h1 : i * n + n ≤ L.length * n := by rw [← Nat.succ_mul]; exact Nat.mul_le_mul_right _ hi
  rw [readN_some (by rw [flatten_length hL]; exact h1), flatten_drop hL, List.drop_eq_getElem_cons hi, List.flatten_cons]
  rw [List.take_append_of_le_length (by rw [hL _ (List.getElem_mem hi)]; exact Nat.le_refl _), ← hL _ (List.getElem_mem hi), List.take_length]

theorem getElem?_flatten {n : Nat} {L : List (List SV)} {i j : Nat} {c : List SV} {s : SV} (hL : ∀ c ∈ L, c.length = n) (hc : L[i]? = some c) (hs : c[j]? = some s) : L.flatten[i * n + j]? = some s := by
  have hj : j < n := by
    have h1 := (List.getElem?_eq_some_iff.1 hs).1
    have h2 := List.mem_of_getElem? hc
    rw [hL c h2] at h1; exact h1
  rw [flatten_getElem? hL hj, hc]; exact hs

end Go.Jx
namespace Go.Jx
open Go
/-- A closed function that is known. -/
theorem W_known {D : Nat → Option MFunc} {f : Nat} {h : Heap} (hD : D f = some knownM) : W D (.call f [] h) (fun _ vs h' => ∃ v, vs = [v] ∧ v = .sc (.bool true) ∧ h' = h) :=
  W_run (n := 2) (x := .ret) (vs := [.sc (.bool true)]) (h := h) (by rw [run, hD]; rfl) ⟨_, rfl, rfl, rfl⟩
end Go.Jx
namespace Go.Jx
open Go
theorem W_norm {D : Nat → Option MFunc} {Q : Ex → List AV → Heap → Prop} {e e' : List AV} {h : Heap} {dst : Option Nat} {r : List MI} {v : AV} (hs : forceV v (fun v => putK e dst v (fun e' => some (e', []))) = some (e', [])) (k : W D (.ops r e' h) Q) : W D (.ops r (put e dst v) h) Q := by
  rw [forceV_eq, putK_eq] at hs
  simp only [Option.some.injEq, Prod.mk.injEq, and_true] at hs
  rw [hs]; exact k
end Go.Jx
namespace Go.Jx
open Go
theorem W_callsN {D : Nat → Option MFunc} {Q : Ex → List AV → Heap → Prop} {e : List AV} {h : Heap} {dst : Option Nat} {r : List MI} {f : Nat} {args : List Rnd} {as : List AV} {P : AV → Heap → Prop} (g : Nat) (hg : Nat.beq f g = true) (hs : W D (.call g as h) (fun _ vs h' => ∃ v, vs = [v] ∧ P v h')) (ha : args.map (rd e) = as) (k : ∀ v h', P v h' → W D (.ops r (put e dst v) h') Q) : W D (.ops (⟨dst, .call f args, none⟩ :: r) e h) Q := by
  have : f = g := Nat.eq_of_beq_eq_true hg
  subst this
  exact W_calls hs ha k
end Go.Jx
namespace Go.Jx
open Go
/-! ## what stands in the slots at a loop's head -/
def AllAt (e : List AV) : List (Nat × AV) → Prop
  | [] => True
  | p :: r => e.getD p.1 undefA = p.2 ∧ AllAt e r
def EnvIs (n : Nat) (sl : List (Nat × AV)) (e : List AV) : Prop := e.length = n ∧ AllAt e sl
def slotOf (us : Nat → AV) (k : Nat) : List (Nat × AV) → AV
  | [] => us k
  | p :: r => match Nat.beq p.1 k with | true => p.2 | false => slotOf us k r
def mkE (us : Nat → AV) (sl : List (Nat × AV)) : Nat → Nat → List AV
  | _, 0 => []
  | k, n + 1 => slotOf us k sl :: mkE us sl (k + 1) n
theorem mkE_length (us : Nat → AV) (sl : List (Nat × AV)) : ∀ (n k : Nat), (mkE us sl k n).length = n
  | 0, k => rfl
  | n + 1, k => by rw [mkE, List.length_cons, mkE_length us sl n]
theorem mkE_get (us : Nat → AV) (sl : List (Nat × AV)) : ∀ (n k i : Nat), i < n → (mkE us sl k n).getD i undefA = slotOf us (k + i) sl
  | 0, k, i, h => by omega
  | n + 1, k, 0, h => rfl
  | n + 1, k, i + 1, h => by
    rw [mkE, List.getD_cons_succ, mkE_get us sl n (k + 1) i (by omega), show k + 1 + i = k + (i + 1) by omega]
theorem slotOf_at {e : List AV} : ∀ {sl : List (Nat × AV)}, AllAt e sl → ∀ k, slotOf (fun k => e.getD k undefA) k sl = e.getD k undefA
  | [], _, k => rfl
  | p :: r, h, k => by
    rw [slotOf]
    split
    · rename_i hb
      rw [← Nat.eq_of_beq_eq_true hb, h.1]
    · exact slotOf_at h.2 k
theorem EnvIs.list {n : Nat} {sl : List (Nat × AV)} {e : List AV} (h : EnvIs n sl e) : ∃ us, e = mkE us sl 0 n := by
  refine ⟨fun k => e.getD k undefA, ?_⟩
  apply List.ext_getElem (by rw [mkE_length, h.1])
  intro i h1 h2
  have h3 := mkE_get (fun k => e.getD k undefA) sl n 0 i (by rw [← h.1]; exact h1)
  rw [Nat.zero_add, slotOf_at h.2] at h3
  rw [List.getD_eq_getElem?_getD, List.getElem?_eq_getElem h2, List.getD_eq_getElem?_getD, List.getElem?_eq_getElem h1] at h3
  exact h3.symm
end Go.Jx
