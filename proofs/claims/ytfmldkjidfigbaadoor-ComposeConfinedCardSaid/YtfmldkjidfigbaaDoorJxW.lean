/-
  Walking through the plain machine's code with values that are not known: 'W D j Q': the job j comes to an end, and Q holds of it. One lemma for each kind of step.
-/
import Derived.Test.YtfmldkjidfigbaaDoorJxTop
import Derived.IntWalk
namespace Go.Jx
open Go

def W (D : Nat → Option MFunc) (j : Job) (Q : Ex → List AV → Heap → Prop) : Prop := ∃ n x vs h, run D n j = some (x, vs, h) ∧ Q x vs h

variable {D : Nat → Option MFunc}

theorem run_le {n m : Nat} (hnm : n ≤ m) {job : Job} {out : Out} (h : run D n job = some out) : run D m job = some out := by
  induction hnm with
  | refl => exact h
  | step _ ih => exact run_mono D _ _ _ ih

theorem W.mono {j : Job} {Q Q' : Ex → List AV → Heap → Prop} (h : W D j Q) (hQ : ∀ x vs h, Q x vs h → Q' x vs h) : W D j Q' := by
  obtain ⟨n, x, vs, h, hr, hq⟩ := h
  exact ⟨n, x, vs, h, hr, hQ _ _ _ hq⟩

theorem W_one {j j' : Job} {Q : Ex → List AV → Heap → Prop} (hj : ∀ n, run D (n + 1) j = run D n j') (k : W D j' Q) : W D j Q := by
  obtain ⟨n, x, vs, h, hr, hq⟩ := k
  exact ⟨n + 1, x, vs, h, by rw [hj]; exact hr, hq⟩

theorem W_end {j : Job} {Q : Ex → List AV → Heap → Prop} {x : Ex} {vs : List AV} {h : Heap} (hj : ∀ n, run D (n + 1) j = some (x, vs, h)) (hq : Q x vs h) : W D j Q := ⟨1, x, vs, h, hj 0, hq⟩

theorem rd_k (e : List AV) (v : AV) : rd e (.k v) = v := rfl
theorem rd_z (a : AV) (e : List AV) : rd (a :: e) (.t 0) = a := rfl
theorem rd_s (a : AV) (e : List AV) (n : Nat) : rd (a :: e) (.t (n + 1)) = rd e (.t n) := rfl
theorem gd_z (a d : AV) (e : List AV) : List.getD (a :: e) 0 d = a := rfl
theorem gd_s (a d : AV) (e : List AV) (n : Nat) : List.getD (a :: e) (n + 1) d = List.getD e n d := rfl

theorem W_run {n : Nat} {j : Job} {Q : Ex → List AV → Heap → Prop} {x : Ex} {vs : List AV} {h : Heap} (hr : run D n j = some (x, vs, h)) (hq : Q x vs h) : W D j Q := ⟨n, x, vs, h, hr, hq⟩
theorem W.out {j : Job} {Q : Ex → List AV → Heap → Prop} (k : W D j Q) : ∃ n x vs h, run D n j = some (x, vs, h) ∧ Q x vs h := k

/-! ## what comes behind -/

def seqK (D : Nat → Option MFunc) (b : MCode) (Q : Ex → List AV → Heap → Prop) : Ex → List AV → Heap → Prop
  | .normal, e, h => W D (.code b e h) Q
  | .exit j, e, h => Q (.exit j) e h
  | .ret, e, h => Q .ret e h

def blockK (id : Nat) (Q : Ex → List AV → Heap → Prop) : Ex → List AV → Heap → Prop
  | .normal, e, h => Q .normal e h
  | .exit j, e, h => if j = id then Q .normal e h else Q (.exit j) e h
  | .ret, e, h => Q .ret e h

def loopK (D : Nat → Option MFunc) (a : MCode) (Q : Ex → List AV → Heap → Prop) : Ex → List AV → Heap → Prop
  | .normal, e, h => W D (.code (.loop a) e h) Q
  | .exit j, e, h => Q (.exit j) e h
  | .ret, e, h => Q .ret e h

def callK (D : Nat → Option MFunc) (dst : Option Nat) (r : List MI) (e : List AV) (Q : Ex → List AV → Heap → Prop) : Ex → List AV → Heap → Prop :=
  fun _ vs h => ∃ v, vs = [v] ∧ W D (.ops r (put e dst v) h) Q

def fnK (m : MFunc) (Q : Ex → List AV → Heap → Prop) : Ex → List AV → Heap → Prop
  | .normal, e, h => ∃ v, resultsA m.results e h = some v ∧ Q .ret [v] h
  | .ret, e, h => ∃ v, resultsA m.results e h = some v ∧ Q .ret [v] h
  | .exit _, _, _ => False

section
variable {Q : Ex → List AV → Heap → Prop} {e : List AV} {h : Heap}

theorem seqK_n {b : MCode} (k : W D (.code b e h) Q) : seqK D b Q .normal e h := k
theorem seqK_x {b : MCode} {j : Nat} (k : Q (.exit j) e h) : seqK D b Q (.exit j) e h := k
theorem seqK_r {b : MCode} (k : Q .ret e h) : seqK D b Q .ret e h := k
theorem blockK_n {id : Nat} (k : Q .normal e h) : blockK id Q .normal e h := k
theorem blockK_r {id : Nat} (k : Q .ret e h) : blockK id Q .ret e h := k
theorem blockK_e {id : Nat} (k : Q .normal e h) : blockK id Q (.exit id) e h := by
  show if id = id then _ else _
  rw [if_pos rfl]; exact k
theorem blockK_x {id j : Nat} (hj : (j == id) = false) (k : Q (.exit j) e h) : blockK id Q (.exit j) e h := by
  show if j = id then _ else _
  rw [if_neg (by simpa using hj)]; exact k
theorem loopK_n {a : MCode} (k : W D (.code (.loop a) e h) Q) : loopK D a Q .normal e h := k
theorem loopK_x {a : MCode} {j : Nat} (k : Q (.exit j) e h) : loopK D a Q (.exit j) e h := k
theorem loopK_r {a : MCode} (k : Q .ret e h) : loopK D a Q .ret e h := k

/-! ## code -/

theorem W_skip (k : Q .normal e h) : W D (.code .skip e h) Q := W_end (fun n => by rw [run]) k
theorem W_exit {id : Nat} (k : Q (.exit id) e h) : W D (.code (.exit id) e h) Q := W_end (fun n => by rw [run]) k
theorem W_ret (k : Q .ret e h) : W D (.code .ret e h) Q := W_end (fun n => by rw [run]) k
theorem W_ops {l : List MI} (k : W D (.ops l e h) Q) : W D (.code (.ops l) e h) Q := W_one (fun n => by rw [run]) k

theorem W_seq {a b : MCode} (k : W D (.code a e h) (seqK D b Q)) : W D (.code (.seq a b) e h) Q := by
  obtain ⟨n, x, vs, h', hr, hq⟩ := k
  cases x with
  | normal =>
    obtain ⟨m, y, us, h2, hr2, hq2⟩ := hq
    refine ⟨Nat.max n m + 1, y, us, h2, ?_, hq2⟩
    rw [run, run_le (Nat.le_max_left n m) hr]
    exact run_le (Nat.le_max_right n m) hr2
  | exit j =>
    refine ⟨n + 1, .exit j, vs, h', ?_, hq⟩
    rw [run, hr]
  | ret =>
    refine ⟨n + 1, .ret, vs, h', ?_, hq⟩
    rw [run, hr]

theorem W_block {id : Nat} {a : MCode} (k : W D (.code a e h) (blockK id Q)) : W D (.code (.block id a) e h) Q := by
  obtain ⟨n, x, vs, h', hr, hq⟩ := k
  cases x with
  | normal => exact ⟨n + 1, .normal, vs, h', by rw [run, hr], hq⟩
  | ret => exact ⟨n + 1, .ret, vs, h', by rw [run, hr], hq⟩
  | exit j =>
    by_cases hj : j = id
    · refine ⟨n + 1, .normal, vs, h', by rw [run, hr]; simp [hj], ?_⟩
      have : (if j = id then Q .normal vs h' else Q (.exit j) vs h') := hq
      rwa [if_pos hj] at this
    · refine ⟨n + 1, .exit j, vs, h', by rw [run, hr]; simp [hj], ?_⟩
      have : (if j = id then Q .normal vs h' else Q (.exit j) vs h') := hq
      rwa [if_neg hj] at this

theorem W_loop1 {a : MCode} (k : W D (.code a e h) (loopK D a Q)) : W D (.code (.loop a) e h) Q := by
  obtain ⟨n, x, vs, h', hr, hq⟩ := k
  cases x with
  | normal =>
    obtain ⟨m, y, us, h2, hr2, hq2⟩ := hq
    refine ⟨Nat.max n m + 1, y, us, h2, ?_, hq2⟩
    rw [run, run_le (Nat.le_max_left n m) hr]
    exact run_le (Nat.le_max_right n m) hr2
  | exit j =>
    refine ⟨n + 1, .exit j, vs, h', ?_, hq⟩
    rw [run, hr]
  | ret =>
    refine ⟨n + 1, .ret, vs, h', ?_, hq⟩
    rw [run, hr]

/-- A loop, by what holds at its head; 'n' falls at each round. -/
def invK (I : Nat → List AV → Heap → Prop) (n : Nat) (Q : Ex → List AV → Heap → Prop) : Ex → List AV → Heap → Prop
  | .normal, e, h => ∃ m, m < n ∧ I m e h
  | .exit j, e, h => Q (.exit j) e h
  | .ret, e, h => Q .ret e h

theorem invK_x {I : Nat → List AV → Heap → Prop} {n j : Nat} (k : Q (.exit j) e h) : invK I n Q (.exit j) e h := k
theorem invK_r {I : Nat → List AV → Heap → Prop} {n : Nat} (k : Q .ret e h) : invK I n Q .ret e h := k
theorem invK_n {I : Nat → List AV → Heap → Prop} {n : Nat} (k : ∃ m, m < n ∧ I m e h) : invK I n Q .normal e h := k

theorem W_loop {a : MCode} (I : Nat → List AV → Heap → Prop) (n : Nat) (h0 : I n e h) (step : ∀ n e h, I n e h → W D (.code a e h) (invK I n Q)) : W D (.code (.loop a) e h) Q := by
  induction n using Nat.strongRecOn generalizing e h with
  | ind n ih =>
    refine W_loop1 ((step n e h h0).mono ?_)
    intro x vs h' hq
    cases x with
    | normal => obtain ⟨m, hm, hI⟩ := hq; exact ih m hm hI
    | exit j => exact hq
    | ret => exact hq

theorem W_cond {c : Rnd} {t : Bool} {a b : MCode} (hc : rd e c = .sc (.bool t)) (h1 : t = true → W D (.code a e h) Q) (h2 : t = false → W D (.code b e h) Q) : W D (.code (.cond c a b) e h) Q := by
  cases t with
  | true => exact W_one (fun n => by rw [run, hc]) (h1 rfl)
  | false => exact W_one (fun n => by rw [run, hc]) (h2 rfl)

theorem W_cond_t {c : Rnd} {a b : MCode} (hc : rd e c = .sc (.bool true)) (k : W D (.code a e h) Q) : W D (.code (.cond c a b) e h) Q := W_one (fun n => by rw [run, hc]) k
theorem W_cond_f {c : Rnd} {a b : MCode} (hc : rd e c = .sc (.bool false)) (k : W D (.code b e h) Q) : W D (.code (.cond c a b) e h) Q := W_one (fun n => by rw [run, hc]) k

/-! ## operations -/

variable {dst : Option Nat} {r : List MI}

theorem W_put {v : AV} {e' : List AV} (he : put e dst v = e') (k : W D (.ops r e' h) Q) : W D (.ops r (put e dst v) h) Q := by subst he; exact k

theorem W_nil (k : Q .normal e h) : W D (.ops [] e h) Q := W_end (fun n => by rw [run]) k

theorem W_act {op : MOp} {v : AV} {h' : Heap} (hc : isCall op = false) (ho : opA op e h = some (v, h')) (k : W D (.ops r (put e dst v) h') Q) : W D (.ops (⟨dst, op, none⟩ :: r) e h) Q :=
  W_one (fun n => by rw [run]; simp only [wantedA, hc, ho]) k

theorem W_guard {op : MOp} {t : Nat} {b c : Bool} (hb : rd e (.t t) = .sc (.bool c)) (h1 : c = b → W D (.ops (⟨dst, op, none⟩ :: r) e h) Q) (h2 : c = (!b) → W D (.ops r (put e dst undefA) h) Q) : W D (.ops (⟨dst, op, some (t, b)⟩ :: r) e h) Q := by
  have hb' : e.getD t undefA = .sc (.bool c) := hb
  by_cases hcb : c = b
  · obtain ⟨n, x, vs, h', hr, hq⟩ := h1 hcb
    refine ⟨n, x, vs, h', ?_, hq⟩
    rw [← hr]
    cases n with
    | zero => rfl
    | succ n =>
      rw [run, run]
      simp only [wantedA]
      rw [hb', hcb]
      simp [boolIs]
  · refine W_one (fun n => ?_) (h2 (by cases c <;> cases b <;> simp_all))
    rw [run]
    simp only [wantedA]
    rw [hb']
    have : (c == b) = false := by cases c <;> cases b <;> simp_all
    simp [boolIs, this]

theorem W_guardT {op : MOp} {t : Nat} {c : Bool} (hb : rd e (.t t) = .sc (.bool c)) (h1 : c = true → W D (.ops (⟨dst, op, none⟩ :: r) e h) Q) (h2 : c = false → W D (.ops r (put e dst undefA) h) Q) : W D (.ops (⟨dst, op, some (t, true)⟩ :: r) e h) Q := W_guard hb h1 h2
theorem W_guardF {op : MOp} {t : Nat} {c : Bool} (hb : rd e (.t t) = .sc (.bool c)) (h1 : c = false → W D (.ops (⟨dst, op, none⟩ :: r) e h) Q) (h2 : c = true → W D (.ops r (put e dst undefA) h) Q) : W D (.ops (⟨dst, op, some (t, false)⟩ :: r) e h) Q := W_guard hb h1 h2
theorem W_guard_u {op : MOp} {t : Nat} {b : Bool} (hb : rd e (.t t) = undefA) (k : W D (.ops r (put e dst undefA) h) Q) : W D (.ops (⟨dst, op, some (t, b)⟩ :: r) e h) Q := by
  have hb' : e.getD t undefA = undefA := hb
  refine W_one (fun n => ?_) k
  rw [run]
  simp only [wantedA]
  rw [hb']
  rfl
theorem W_guard_on {op : MOp} {t : Nat} {b : Bool} (hb : rd e (.t t) = .sc (.bool b)) (k : W D (.ops (⟨dst, op, none⟩ :: r) e h) Q) : W D (.ops (⟨dst, op, some (t, b)⟩ :: r) e h) Q :=
  W_guard hb (fun _ => k) (fun hf => absurd hf (by cases b <;> simp))
theorem W_guard_off {op : MOp} {t : Nat} {b c : Bool} (hb : rd e (.t t) = .sc (.bool c)) (hc : (c == b) = false) (k : W D (.ops r (put e dst undefA) h) Q) : W D (.ops (⟨dst, op, some (t, b)⟩ :: r) e h) Q :=
  W_guard hb (fun hf => absurd hf (by simpa using hc)) (fun _ => k)

theorem W_pure {op : MOp} {v : AV} (hc : isCall op = false) (hp : pureA op e = some v) (ho : opA op e h = (pureA op e).map fun v => (v, h)) (k : W D (.ops r (put e dst v) h) Q) : W D (.ops (⟨dst, op, none⟩ :: r) e h) Q :=
  W_act hc (by rw [ho, hp]; rfl) k

theorem W_move {x : Rnd} {v : AV} (hx : rd e x = v) (k : W D (.ops r (put e dst v) h) Q) : W D (.ops (⟨dst, .move x, none⟩ :: r) e h) Q := W_act rfl (by subst hx; rfl) k
theorem W_same {x : Rnd} {v : AV} (hx : rd e x = v) (k : W D (.ops r (put e dst v) h) Q) : W D (.ops (⟨dst, .same x, none⟩ :: r) e h) Q := W_act rfl (by subst hx; rfl) k

theorem W_pick_t {c a b : Rnd} {v : AV} (hc : rd e c = .sc (.bool true)) (ha : rd e a = v) (k : W D (.ops r (put e dst v) h) Q) : W D (.ops (⟨dst, .pick c a b, none⟩ :: r) e h) Q :=
  W_act rfl (v := v) (h' := h) (by show (match rd e c with | .sc (.bool t) => some (if t then rd e a else rd e b) | _ => none).map _ = _; rw [hc]; simp [ha]) k
theorem W_pick_f {c a b : Rnd} {v : AV} (hc : rd e c = .sc (.bool false)) (hb : rd e b = v) (k : W D (.ops r (put e dst v) h) Q) : W D (.ops (⟨dst, .pick c a b, none⟩ :: r) e h) Q :=
  W_act rfl (v := v) (h' := h) (by show (match rd e c with | .sc (.bool t) => some (if t then rd e a else rd e b) | _ => none).map _ = _; rw [hc]; simp [hb]) k
theorem W_pick {c a b : Rnd} {t : Bool} (hc : rd e c = .sc (.bool t)) (h1 : t = true → W D (.ops (⟨dst, .move a, none⟩ :: r) e h) Q) (h2 : t = false → W D (.ops (⟨dst, .move b, none⟩ :: r) e h) Q) : W D (.ops (⟨dst, .pick c a b, none⟩ :: r) e h) Q := by
  have key : opA (.pick c a b) e h = opA (.move (if t then a else b)) e h := by
    show (match rd e c with | .sc (.bool t) => some (if t then rd e a else rd e b) | _ => none).map _ = _
    rw [hc]; cases t <;> rfl
  have key2 : ∀ n, run D n (.ops (⟨dst, .pick c a b, none⟩ :: r) e h) = run D n (.ops (⟨dst, .move (if t then a else b), none⟩ :: r) e h) := by
    intro n
    cases n with
    | zero => rfl
    | succ n => rw [run, run]; simp only [wantedA, isCall, key]
  cases t with
  | true => obtain ⟨n, x, vs, h', hr, hq⟩ := h1 rfl; exact ⟨n, x, vs, h', by rw [key2]; exact hr, hq⟩
  | false => obtain ⟨n, x, vs, h', hr, hq⟩ := h2 rfl; exact ⟨n, x, vs, h', by rw [key2]; exact hr, hq⟩

theorem binA_int {op : BinOp} {q : EqQ} {k : IntKind} {a b : Int} (hop : (op == .shl || op == .shr) = false) : binA op q (.sc (.int k a)) (.sc (.int k b)) = intA op k a b := by
  cases op <;> first | rfl | (exact absurd hop (by decide)) | (simp [binA])

theorem W_bin {op : BinOp} {q : EqQ} {x y : Rnd} {v : AV} {u w : AV} (hx : rd e x = u) (hy : rd e y = w) (hv : binA op q u w = some v) (k : W D (.ops r (put e dst v) h) Q) : W D (.ops (⟨dst, .bin op q x y, none⟩ :: r) e h) Q :=
  W_act rfl (by show (binA op q (rd e x) (rd e y)).map _ = _; rw [hx, hy, hv]; rfl) k

section ints
variable {q : EqQ} {x y : Rnd} {k : IntKind} {a b c : Int}
theorem W_lss (hx : rd e x = .sc (.int k a)) (hy : rd e y = .sc (.int k b)) (K : W D (.ops r (put e dst (.sc (.bool (decide (a < b))))) h) Q) : W D (.ops (⟨dst, .bin .lss q x y, none⟩ :: r) e h) Q := W_bin hx hy (binA_int rfl) K
theorem W_leq (hx : rd e x = .sc (.int k a)) (hy : rd e y = .sc (.int k b)) (K : W D (.ops r (put e dst (.sc (.bool (decide (a ≤ b))))) h) Q) : W D (.ops (⟨dst, .bin .leq q x y, none⟩ :: r) e h) Q := W_bin hx hy (binA_int rfl) K
theorem W_gtr (hx : rd e x = .sc (.int k a)) (hy : rd e y = .sc (.int k b)) (K : W D (.ops r (put e dst (.sc (.bool (decide (b < a))))) h) Q) : W D (.ops (⟨dst, .bin .gtr q x y, none⟩ :: r) e h) Q := W_bin hx hy (binA_int rfl) K
theorem W_geq (hx : rd e x = .sc (.int k a)) (hy : rd e y = .sc (.int k b)) (K : W D (.ops r (put e dst (.sc (.bool (decide (b ≤ a))))) h) Q) : W D (.ops (⟨dst, .bin .geq q x y, none⟩ :: r) e h) Q := W_bin hx hy (binA_int rfl) K
theorem W_eql (hx : rd e x = .sc (.int k a)) (hy : rd e y = .sc (.int k b)) (K : W D (.ops r (put e dst (.sc (.bool (a == b)))) h) Q) : W D (.ops (⟨dst, .bin .eql q x y, none⟩ :: r) e h) Q := W_bin hx hy (binA_int rfl) K
theorem W_neq (hx : rd e x = .sc (.int k a)) (hy : rd e y = .sc (.int k b)) (K : W D (.ops r (put e dst (.sc (.bool (a != b)))) h) Q) : W D (.ops (⟨dst, .bin .neq q x y, none⟩ :: r) e h) Q := W_bin hx hy (binA_int rfl) K
theorem W_add (hx : rd e x = .sc (.int k a)) (hy : rd e y = .sc (.int k b)) (hc : k.wrap (a + b) = c) (K : W D (.ops r (put e dst (.sc (.int k c))) h) Q) : W D (.ops (⟨dst, .bin .add q x y, none⟩ :: r) e h) Q := W_bin hx hy (by rw [binA_int rfl]; show some (AV.sc (SV.int k (k.wrap (a + b)))) = _; rw [hc]) K
theorem W_sub (hx : rd e x = .sc (.int k a)) (hy : rd e y = .sc (.int k b)) (hc : k.wrap (a - b) = c) (K : W D (.ops r (put e dst (.sc (.int k c))) h) Q) : W D (.ops (⟨dst, .bin .sub q x y, none⟩ :: r) e h) Q := W_bin hx hy (by rw [binA_int rfl]; show some (AV.sc (SV.int k (k.wrap (a - b)))) = _; rw [hc]) K
theorem W_mul (hx : rd e x = .sc (.int k a)) (hy : rd e y = .sc (.int k b)) (hc : k.wrap (a * b) = c) (K : W D (.ops r (put e dst (.sc (.int k c))) h) Q) : W D (.ops (⟨dst, .bin .mul q x y, none⟩ :: r) e h) Q := W_bin hx hy (by rw [binA_int rfl]; show some (AV.sc (SV.int k (k.wrap (a * b)))) = _; rw [hc]) K
theorem W_quo (hx : rd e x = .sc (.int k a)) (hy : rd e y = .sc (.int k b)) (hb : b ≠ 0) (hc : k.wrap (a.tdiv b) = c) (K : W D (.ops r (put e dst (.sc (.int k c))) h) Q) : W D (.ops (⟨dst, .bin .quo q x y, none⟩ :: r) e h) Q := W_bin hx hy (by rw [binA_int rfl]; show (if b = 0 then none else some (AV.sc (SV.int k (k.wrap (a.tdiv b))))) = _; rw [if_neg hb, hc]) K
theorem W_rem (hx : rd e x = .sc (.int k a)) (hy : rd e y = .sc (.int k b)) (hb : b ≠ 0) (K : W D (.ops r (put e dst (.sc (.int k (a.tmod b)))) h) Q) : W D (.ops (⟨dst, .bin .rem q x y, none⟩ :: r) e h) Q := W_bin hx hy (by rw [binA_int rfl]; show (if b = 0 then none else some (AV.sc (SV.int k (a.tmod b)))) = _; rw [if_neg hb]) K
theorem W_convint {k' : IntKind} (hx : rd e x = .sc (.int k a)) (hc : k'.wrap a = c) (K : W D (.ops r (put e dst (.sc (.int k' c))) h) Q) : W D (.ops (⟨dst, .conv (.int k') x, none⟩ :: r) e h) Q :=
  W_act rfl (by show (match rd e x with | .sc (.int _ n) => some (AV.sc (SV.int k' (k'.wrap n)), h) | _ => none) = _; rw [hx]; show some (AV.sc (SV.int k' (k'.wrap a)), h) = _; rw [hc]) K
end ints

theorem W_eqlb {q : EqQ} {x y : Rnd} {a b : Bool} (hx : rd e x = .sc (.bool a)) (hy : rd e y = .sc (.bool b)) (hq : q = .bool) (K : W D (.ops r (put e dst (.sc (.bool (a == b)))) h) Q) : W D (.ops (⟨dst, .bin .eql q x y, none⟩ :: r) e h) Q := by subst hq; exact W_bin hx hy rfl K
theorem W_neqb {q : EqQ} {x y : Rnd} {a b : Bool} (hx : rd e x = .sc (.bool a)) (hy : rd e y = .sc (.bool b)) (hq : q = .bool) (K : W D (.ops r (put e dst (.sc (.bool (!(a == b))))) h) Q) : W D (.ops (⟨dst, .bin .neq q x y, none⟩ :: r) e h) Q := by subst hq; exact W_bin hx hy rfl K

theorem W_not {x : Rnd} {t : Bool} (hx : rd e x = .sc (.bool t)) (k : W D (.ops r (put e dst (.sc (.bool (!t)))) h) Q) : W D (.ops (⟨dst, .un .not x, none⟩ :: r) e h) Q :=
  W_act rfl (by show (unA .not (rd e x)).map _ = _; rw [hx]; rfl) k

theorem W_extract {x : Rnd} {i : Nat} {vs : List AV} {v : AV} (hx : rd e x = .tup vs) (hv : vs[i]? = some v) (k : W D (.ops r (put e dst v) h) Q) : W D (.ops (⟨dst, .extract x i, none⟩ :: r) e h) Q :=
  W_act rfl (by show (match rd e x with | .tup vs => vs[i]? | _ => none).map _ = _; rw [hx]; show (vs[i]?).map _ = _; rw [hv]; rfl) k

theorem W_lenStr {x : Rnd} {s : List UInt8} (hx : rd e x = .sc (.str s)) (k : W D (.ops r (put e dst (.sc (.int .i64 (s.length : Int)))) h) Q) : W D (.ops (⟨dst, .lenStr x, none⟩ :: r) e h) Q :=
  W_act rfl (by show (match rd e x with | .sc (.str s) => some (AV.sc (SV.int .i64 (s.length : Int))) | _ => none).map _ = _; rw [hx]; rfl) k

theorem W_idxStr {x i : Rnd} {s : List UInt8} {k : IntKind} {n : Int} (hx : rd e x = .sc (.str s)) (hi : rd e i = .sc (.int k n)) (hn : 0 ≤ n ∧ n < (s.length : Int)) (K : W D (.ops r (put e dst (.sc (.int .u8 ((s.getD n.toNat 0).toNat : Int)))) h) Q) : W D (.ops (⟨dst, .idxStr x i, none⟩ :: r) e h) Q :=
  W_act rfl (v := .sc (.int .u8 ((s.getD n.toNat 0).toNat : Int))) (h' := h) (by
    show (match rd e x, rd e i with | .sc (.str s), .sc (.int _ n) => if 0 ≤ n then (s[n.toNat]?).map (fun (b : UInt8) => AV.sc (.int .u8 b.toNat)) else none | _, _ => none).map _ = _
    rw [hx, hi]
    show (if 0 ≤ n then (s[n.toNat]?).map (fun (b : UInt8) => AV.sc (.int .u8 b.toNat)) else none).map _ = _
    have hl : n.toNat < s.length := by omega
    rw [if_pos hn.1, List.getD_eq_getElem?_getD, List.getElem?_eq_getElem hl]; rfl) K

/-! ## calls -/

theorem W_callop {f : Nat} {args : List Rnd} {as : List AV} (ha : args.map (rd e) = as) (k : W D (.call f as h) (callK D dst r e Q)) : W D (.ops (⟨dst, .call f args, none⟩ :: r) e h) Q := by
  subst ha
  obtain ⟨n, x, vs, h', hr, v, rfl, m, y, us, h2, hr2, hq⟩ := k
  refine ⟨Nat.max n m + 1, y, us, h2, ?_, hq⟩
  rw [run]
  simp only [wantedA, isCall, calleeA]
  rw [run_le (Nat.le_max_left n m) hr]
  exact run_le (Nat.le_max_right n m) hr2

theorem callK_i {vs : List AV} {x : Ex} {v : AV} (hv : vs = [v]) (k : W D (.ops r (put e dst v) h) Q) : callK D dst r e Q x vs h := ⟨v, hv, k⟩

/-- What a call is known to do. -/
theorem W_calls {f : Nat} {args : List Rnd} {as : List AV} {P : AV → Heap → Prop} (hs : W D (.call f as h) (fun _ vs h' => ∃ v, vs = [v] ∧ P v h')) (ha : args.map (rd e) = as) (k : ∀ v h', P v h' → W D (.ops r (put e dst v) h') Q) : W D (.ops (⟨dst, .call f args, none⟩ :: r) e h) Q :=
  W_callop ha (hs.mono fun _ _ _ ⟨v, hv, hp⟩ => ⟨v, hv, k _ _ hp⟩)

theorem W_enter {f : Nat} {m : MFunc} {args : List AV} (hD : D f = some m) (k : W D (.code m.code (args ++ List.replicate (m.ntmps - args.length) undefA) h) (fnK m Q)) : W D (.call f args h) Q := by
  obtain ⟨n, x, vs, h', hr, hq⟩ := k
  cases x with
  | normal =>
    obtain ⟨v, hv, hq⟩ := hq
    refine ⟨n + 1, .ret, [v], h', ?_, hq⟩
    rw [run, hD]
    simp only [hr, hv, Option.map]
  | ret =>
    obtain ⟨v, hv, hq⟩ := hq
    refine ⟨n + 1, .ret, [v], h', ?_, hq⟩
    rw [run, hD]
    simp only [hr, hv, Option.map]
  | exit j => exact absurd hq (by simp [fnK])

theorem fnK_r {m : MFunc} {v : AV} (hv : resultsA m.results e h = some v) (k : Q .ret [v] h) : fnK m Q .ret e h := ⟨v, hv, k⟩
theorem fnK_n {m : MFunc} {v : AV} (hv : resultsA m.results e h = some v) (k : Q .ret [v] h) : fnK m Q .normal e h := ⟨v, hv, k⟩

end

attribute [irreducible] W seqK blockK loopK invK callK fnK

end Go.Jx
