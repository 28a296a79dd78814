/-
  Walking, third part: slices as lists of elements.
-/
import Derived.Test.YtfmldkjidfigbaaDoorJxW2
set_option linter.unusedVariables false
set_option linter.unusedSimpArgs false
namespace Go.Jx
open Go

/-- A slice value, and what it has: elements of n cells each. -/
def Sl {α : Type} (enc : α → List SV) (n : Nat) (h : Heap) (v : SV) (L : List α) : Prop :=
  (L = [] ∧ (v = .nils ∨ ∃ b, v = .eslice b)) ∨
  ∃ id off cap t kd cs, v = .slice id off L.length cap ∧ L.length ≤ cap ∧ h.get id = some (.cells t kd cs) ∧ ∀ (i : Nat) (x : α), L[i]? = some x → readN cs (off + i * n) n = some (enc x)

/-- Cells from a place on. -/
def Pt (h : Heap) (id o : Nat) (ch : List SV) : Prop := ∃ t kd cs, h.get id = some (.cells t kd cs) ∧ readN cs o ch.length = some ch

theorem readN_spec {cs vs : List SV} {o n : Nat} (h : readN cs o n = some vs) : vs.length = n ∧ ∀ i, i < n → cs[o + i]? = vs[i]? := by
  unfold readN at h
  split at h
  · rename_i hl
    cases h
    refine ⟨by rw [List.length_take, List.length_drop]; omega, fun i hi => ?_⟩
    rw [List.getElem?_take_of_lt hi, List.getElem?_drop]
  · cases h
theorem readN_of {cs vs : List SV} {o n : Nat} (hl : vs.length = n) (h : ∀ i, i < n → cs[o + i]? = vs[i]?) (h0 : n = 0 → o ≤ cs.length) : readN cs o n = some vs := by
  have hlen : o + n ≤ cs.length := by
    rcases Nat.eq_zero_or_pos n with hz | hz
    · have := h0 hz; omega
    · have h1 := h (n - 1) (by omega)
      rw [List.getElem?_eq_getElem (show n - 1 < vs.length by omega)] at h1
      have := (List.getElem?_eq_some_iff.1 h1).1
      omega
  unfold readN
  rw [if_pos hlen]
  congr 1
  apply List.ext_getElem?
  intro i
  by_cases hi : i < n
  · rw [List.getElem?_take_of_lt hi, List.getElem?_drop, h i hi]
  · rw [List.getElem?_eq_none (by rw [List.length_take, List.length_drop]; omega), List.getElem?_eq_none (by omega)]

theorem Pt.get {h : Heap} {id o : Nat} {ch : List SV} (p : Pt h id o ch) {f : Nat} {s : SV} (hf : ch[f]? = some s) : loadA none (.sc (.ptr id (o + f))) h = some (.sc s) := by
  obtain ⟨t, kd, cs, h1, h2⟩ := p
  obtain ⟨h3, h4⟩ := readN_spec h2
  have := h4 f (List.getElem?_eq_some_iff.1 hf).1
  simp only [loadA, h1, partA, this, hf, Option.map_some]
theorem Pt.all {h : Heap} {id o : Nat} {ch : List SV} (p : Pt h id o ch) : loadA (some ch.length) (.sc (.ptr id o)) h = some (.agg ch) := by
  obtain ⟨t, kd, cs, h1, h2⟩ := p
  simp only [loadA, h1, partA, h2, Option.map_some]
theorem Pt.mono {h h' : Heap} (s : Sub h h') {id o : Nat} {ch : List SV} (p : Pt h id o ch) : Pt h' id o ch := by
  obtain ⟨t, kd, cs, h1, h2⟩ := p
  exact ⟨t, kd, cs, s.2 _ _ h1, h2⟩

section
variable {α : Type} {enc : α → List SV} {n : Nat} {h h' : Heap} {v : SV} {L : List α}

theorem Sl.mono (s : Sub h h') (p : Sl enc n h v L) : Sl enc n h' v L := by
  rcases p with p | ⟨id, off, cap, t, kd, cs, h1, h2, h3, h4⟩
  · exact .inl p
  · exact .inr ⟨id, off, cap, t, kd, cs, h1, h2, s.2 _ _ h3, h4⟩

theorem Sl.nil (h : Heap) : Sl enc n h .nils [] := .inl ⟨rfl, .inl rfl⟩

theorem Sl.pos (p : Sl enc n h v L) (hl : 0 < L.length) : ∃ id off cap t kd cs, v = .slice id off L.length cap ∧ L.length ≤ cap ∧ h.get id = some (.cells t kd cs) ∧ ∀ (i : Nat) (x : α), L[i]? = some x → readN cs (off + i * n) n = some (enc x) := by
  rcases p with ⟨rfl, _⟩ | p
  · simp at hl
  · exact p

/-- An object of its own, all of it. -/
theorem Sl.whole {id : Nat} {t : TypeId} {kd : Kind} (hn : ∀ a, (enc a).length = n) (hg : h.get id = some (.cells t kd (L.flatMap enc))) : Sl enc n h (.slice id 0 L.length L.length) L := by
  refine .inr ⟨id, 0, L.length, t, kd, _, rfl, Nat.le_refl _, hg, fun i x hx => ?_⟩
  rw [Nat.zero_add, List.flatMap_def]
  exact readN_flatten (by intro c hc; obtain ⟨a, _, rfl⟩ := List.mem_map.1 hc; exact hn a) (by rw [List.getElem?_map, hx]; rfl)

theorem Sl.cut (p : Sl enc n h v L) {lo hi : Nat} (hlo : lo ≤ hi) (hhi : hi ≤ L.length) : ∃ v', sliceA n (.sc v) (some (.sc (.int .i64 lo))) (some (.sc (.int .i64 hi))) = some (.sc v') ∧ Sl enc n h v' ((L.take hi).drop lo) := by
  rcases p with ⟨rfl, hv⟩ | ⟨id, off, cap, t, kd, cs, rfl, h2, h3, h4⟩
  · have h0 : lo = 0 ∧ hi = 0 := by simp at hhi; omega
    obtain ⟨rfl, rfl⟩ := h0
    rcases hv with rfl | ⟨b, rfl⟩
    · exact ⟨.nils, rfl, .inl ⟨by simp, .inl rfl⟩⟩
    · exact ⟨.eslice b, rfl, .inl ⟨by simp, .inr ⟨b, rfl⟩⟩⟩
  · have hb : boundsA L.length cap (some (.sc (.int .i64 (lo : Int)))) (some (.sc (.int .i64 (hi : Int)))) = some (lo, hi) := by
      unfold boundsA
      simp only [natA]
      rw [if_pos (by omega), if_pos (by omega)]
      simp only [Int.toNat_natCast]
      rw [if_pos (by omega)]
    unfold sliceA
    simp only [hb]
    by_cases hl : lo = cap ∧ 0 < cap
    · rw [if_pos hl]
      refine ⟨_, rfl, .inl ⟨?_, .inr ⟨false, rfl⟩⟩⟩
      rw [List.drop_eq_nil_iff, List.length_take]; omega
    · rw [if_neg hl]
      have hlen : ((L.take hi).drop lo).length = hi - lo := by rw [List.length_drop, List.length_take]; omega
      refine ⟨_, rfl, .inr ⟨id, off + lo * n, cap - lo, t, kd, cs, by rw [hlen], by rw [hlen]; omega, h3, fun i x hx => ?_⟩⟩
      rw [List.getElem?_drop] at hx
      have hi' : lo + i < hi := by
        have := (List.getElem?_eq_some_iff.1 hx).1
        rw [List.length_take] at this; omega
      rw [List.getElem?_take_of_lt hi'] at hx
      have := h4 _ _ hx
      rw [Nat.add_mul] at this
      rw [← this]; congr 1; omega
end

section
variable {D : Nat → Option MFunc} {Q : Ex → List AV → Heap → Prop} {e : List AV} {h : Heap} {dst : Option Nat} {r : List MI}
variable {α : Type} {enc : α → List SV} {n : Nat} {v : SV} {L : List α}

theorem W_lenSl {x : Rnd} (hv : Sl enc n h v L) (hx : rd e x = .sc v) (k : W D (.ops r (put e dst (.sc (.int .i64 (L.length : Int)))) h) Q) : W D (.ops (⟨dst, .lenSlice x, none⟩ :: r) e h) Q := by
  refine W_act rfl (v := .sc (.int .i64 (L.length : Int))) (h' := h) ?_ k
  show (match rd e x with | .sc .nils => some (AV.sc (.int .i64 0)) | .sc (.eslice _) => some (AV.sc (.int .i64 0)) | .sc (.slice _ _ len _) => some (AV.sc (.int .i64 len)) | _ => none).map _ = _
  rw [hx]
  rcases hv with ⟨rfl, rfl | ⟨b, rfl⟩⟩ | ⟨id, off, cap, t, kd, cs, rfl, _⟩ <;> rfl

theorem W_indexSl {x i : Rnd} {kd : IntKind} {j : Int} {y : α} (hv : Sl enc n h v L) (hx : rd e x = .sc v) (hi : rd e i = .sc (.int kd j)) (hj : 0 ≤ j) (hy : L[j.toNat]? = some y)
    (k : ∀ id o, Pt h id o (enc y) → W D (.ops r (put e dst (.sc (.ptr id o))) h) Q) : W D (.ops (⟨dst, .indexSlice n x i, none⟩ :: r) e h) Q := by
  have hlt := (List.getElem?_eq_some_iff.1 hy).1
  obtain ⟨id, off, cap, t, kd', cs, rfl, h2, h3, h4⟩ := hv.pos (by omega)
  refine W_indexSlice hx hi ⟨hj, by omega⟩ (k _ _ ⟨t, kd', cs, h3, ?_⟩)
  have := h4 _ _ hy
  rw [(readN_spec this).1]; exact this

theorem W_loadPt {x : Rnd} {id o f : Nat} {ch : List SV} {s : SV} (hp : Pt h id o ch) (hx : rd e x = .sc (.ptr id (o + f))) (hc : ch[f]? = some s) (k : W D (.ops r (put e dst (.sc s)) h) Q) : W D (.ops (⟨dst, .load none x, none⟩ :: r) e h) Q :=
  W_act rfl (v := .sc s) (h' := h) (by show (loadA none (rd e x) h).map _ = _; rw [hx, hp.get hc]; rfl) k
theorem W_loadPt0 {x : Rnd} {id o : Nat} {ch : List SV} {s : SV} (hp : Pt h id o ch) (hx : rd e x = .sc (.ptr id o)) (hc : ch[0]? = some s) (k : W D (.ops r (put e dst (.sc s)) h) Q) : W D (.ops (⟨dst, .load none x, none⟩ :: r) e h) Q :=
  W_act rfl (v := .sc s) (h' := h) (by show (loadA none (rd e x) h).map _ = _; rw [hx, ← Nat.add_zero o, hp.get hc]; rfl) k
theorem W_loadPtAgg {x : Rnd} {id o m : Nat} {ch : List SV} (hp : Pt h id o ch) (hx : rd e x = .sc (.ptr id o)) (hm : ch.length = m) (k : W D (.ops r (put e dst (.agg ch)) h) Q) : W D (.ops (⟨dst, .load (some m) x, none⟩ :: r) e h) Q :=
  W_act rfl (v := .agg ch) (h' := h) (by show (loadA (some m) (rd e x) h).map _ = _; rw [hx, ← hm, hp.all]; rfl) k

/-- Slicing: both bounds, one, or none. -/
theorem W_sliceSl {x a b : Rnd} {i j : Int} (hv : Sl enc n h v L) (hx : rd e x = .sc v) (ha : rd e a = .sc (.int .i64 i)) (hb : rd e b = .sc (.int .i64 j)) (hij : 0 ≤ i ∧ i ≤ j ∧ j ≤ L.length)
    (k : ∀ v', Sl enc n h v' ((L.take j.toNat).drop i.toNat) → W D (.ops r (put e dst (.sc v')) h) Q) : W D (.ops (⟨dst, .slice n x (some a) (some b), none⟩ :: r) e h) Q := by
  obtain ⟨v', h1, h2⟩ := hv.cut (lo := i.toNat) (hi := j.toNat) (by omega) (by omega)
  refine W_act rfl (v := .sc v') (h' := h) ?_ (k v' h2)
  show (sliceA n (rd e x) (some (rd e a)) (some (rd e b))).map _ = _
  rw [hx, ha, hb]
  rw [Int.toNat_of_nonneg (by omega), Int.toNat_of_nonneg (by omega)] at h1
  rw [h1]; rfl
theorem boundsA_hi (len cap : Nat) (hi : Option AV) : boundsA len cap none hi = boundsA len cap (some (.sc (.int .i64 0))) hi := by
  unfold boundsA
  cases hi with
  | none => simp [natA]
  | some v => simp [natA]
theorem boundsA_lo (len cap : Nat) (lo : Option AV) : boundsA len cap lo none = boundsA len cap lo (some (.sc (.int .i64 (len : Int)))) := by
  unfold boundsA
  simp only [natA, Int.natCast_nonneg, if_true, Int.toNat_natCast]
theorem W_sliceSlTo {x b : Rnd} {j : Int} (hv : Sl enc n h v L) (hx : rd e x = .sc v) (hb : rd e b = .sc (.int .i64 j)) (hij : 0 ≤ j ∧ j ≤ L.length)
    (k : ∀ v', Sl enc n h v' (L.take j.toNat) → W D (.ops r (put e dst (.sc v')) h) Q) : W D (.ops (⟨dst, .slice n x none (some b), none⟩ :: r) e h) Q := by
  obtain ⟨v', h1, h2⟩ := hv.cut (lo := 0) (hi := j.toNat) (by omega) (by omega)
  refine W_act rfl (v := .sc v') (h' := h) ?_ (k v' (by simpa using h2))
  show (sliceA n (rd e x) none (some (rd e b))).map _ = _
  rw [hx, hb]
  rw [Int.toNat_of_nonneg (by omega)] at h1
  have : sliceA n (.sc v) none (some (.sc (.int .i64 j))) = sliceA n (.sc v) (some (.sc (.int .i64 ((0 : Nat) : Int)))) (some (.sc (.int .i64 j))) := by
    unfold sliceA; simp only [boundsA_hi]; rfl
  rw [this, h1]; rfl
theorem W_sliceSlFrom {x a : Rnd} {i : Int} (hv : Sl enc n h v L) (hx : rd e x = .sc v) (ha : rd e a = .sc (.int .i64 i)) (hij : 0 ≤ i ∧ i ≤ L.length)
    (k : ∀ v', Sl enc n h v' (L.drop i.toNat) → W D (.ops r (put e dst (.sc v')) h) Q) : W D (.ops (⟨dst, .slice n x (some a) none, none⟩ :: r) e h) Q := by
  obtain ⟨v', h1, h2⟩ := hv.cut (lo := i.toNat) (hi := L.length) (by omega) (Nat.le_refl _)
  refine W_act rfl (v := .sc v') (h' := h) ?_ (k v' (by simpa using h2))
  show (sliceA n (rd e x) (some (rd e a)) none).map _ = _
  rw [hx, ha]
  rw [Int.toNat_of_nonneg (by omega)] at h1
  have : sliceA n (.sc v) (some (.sc (.int .i64 i))) none = sliceA n (.sc v) (some (.sc (.int .i64 i))) (some (.sc (.int .i64 (L.length : Int)))) := by
    rcases hv with ⟨rfl, rfl | ⟨b, rfl⟩⟩ | ⟨id, off, cap, t, kd, cs, rfl, _⟩ <;> (unfold sliceA; simp only [boundsA_lo]) <;> rfl
  rw [this, h1]; rfl
end

/-- What a slice that a law is handed has. -/
theorem OpenS.sl {H : Heap} {e : TypeId} {n : Nat} {el : List Sh} {v : SV} (o : OpenS H (.slice e n el) v) {α : Type} {enc : α → List SV} {R : α → Prop} (hn : ∀ a, (enc a).length = n) (hel : ∀ l, OpenL H el l → ∃ a, l = enc a ∧ R a) :
    ∃ L : List α, Sl enc n H v L ∧ (∀ a ∈ L, R a) ∧ L.length ≤ 2 ^ 63 - 1 := by
  simp only [OpenS] at o
  rcases o with rfl | rfl | ⟨id, len, cs, rfl, h2, h3, h4, h5, h6⟩
  · exact ⟨[], .inl ⟨rfl, .inl rfl⟩, by simp, by simp⟩
  · exact ⟨[], .inl ⟨rfl, .inr ⟨_, rfl⟩⟩, by simp, by simp⟩
  · obtain ⟨L, h7, rfl, h9⟩ := chunks hn len cs h4 (fun i hi => hel _ (h6 i hi))
    refine ⟨L, ?_, h9, by omega⟩
    have := Sl.whole (L := L) hn h5
    rw [h7] at this
    exact this

end Go.Jx
namespace Go.Jx
open Go
/-! ## regions that draw their order, step by step -/
section
variable {D : Nat → Option MFunc} {Q : Ex → List AV → Heap → Prop} {e : List AV} {h : Heap}

/-- What is written down of one operation of a drawn region. -/
def RecIs (i : DI) (e : List AV) (h h1 : Heap) (rec : Rec) : Prop :=
  rec.h = h ∧ rec.h' = h1 ∧ (i.cls = 1 → rec.on = true → ∃ agg x, i.mi.op = .load agg x ∧ rec.x = rd e x ∧ loadA agg rec.x h = some rec.v)

def clsOk (l : List DI) : Bool := l.all fun d => d.cls == clsOf d.mi.op

theorem W_draws {l : List DI} (k : W D (.dops l l e h []) Q) : W D (.code (.draw l) e h) Q := W_one (fun n => by rw [run]) k

theorem W_dnil {full : List DI} {acc : List Rec} (hc : checkLoads acc.reverse full acc.reverse = true) (k : Q .normal e h) : W D (.dops [] full e h acc) Q :=
  W_run (n := 1) (x := .normal) (vs := e) (h := h) (by rw [run, hc]; rfl) k

theorem W_dstep {i : DI} {r full : List DI} {acc : List Rec} (hcl : (i.cls == clsOf i.mi.op) = true)
    (k : W D (.ops [i.mi] e h) (fun x e1 h1 => x = .normal ∧ ∀ rec, RecIs i e h h1 rec → W D (.dops r full e1 h1 (rec :: acc)) Q)) : W D (.dops (i :: r) full e h acc) Q := by
  have hcl' : i.cls = clsOf i.mi.op := by simpa using hcl
  obtain ⟨n, x, e1, h1, hr, hx, hk⟩ := W.out k
  cases n with
  | zero => simp [run] at hr
  | succ n =>
    have go : ∀ (rec : Rec) (e2 : List AV) (h2 : Heap), RecIs i e h h2 rec → (∀ m, run D (n + m + 1) (.dops (i :: r) full e h acc) = run D (n + m) (.dops r full e2 h2 (rec :: acc))) → e2 = e1 → h2 = h1 → W D (.dops (i :: r) full e h acc) Q := by
      rintro rec e2 h2 hrec hrun rfl rfl
      obtain ⟨m, y, us, h3, hr3, hq⟩ := W.out (hk rec hrec)
      refine W_run (n := n + m + 1) (x := y) (vs := us) (h := h3) ?_ hq
      rw [hrun]
      exact run_le (Nat.le_add_left m n) hr3
    rw [run] at hr
    have fin : ∀ (e2 : List AV) (h2 : Heap), run D n (.ops [] e2 h2) = some (x, e1, h1) → e2 = e1 ∧ h2 = h1 := by
      intro e2 h2 hh
      cases n with
      | zero => simp [run] at hh
      | succ n => simp only [run, Option.some.injEq, Prod.mk.injEq] at hh; exact ⟨hh.2.1, hh.2.2⟩
    split at hr
    · rename_i hw
      obtain ⟨h4, h5⟩ := fin _ _ hr
      exact go ⟨false, undefA, undefA, h, h⟩ _ _ ⟨rfl, rfl, fun _ hh => by cases hh⟩ (fun m => by rw [run, hw]) h4 h5
    · rename_i hw
      cases hp : isPure i.mi.op with
      | true =>
        obtain ⟨p1, p2⟩ := isPure_spec hp
        have hc0 : i.cls = 0 := by rw [hcl']; unfold clsOf; rw [hp]; rfl
        rw [p1, p2] at hr
        simp only at hr
        cases hv : pureA i.mi.op e with
        | none => rw [hv] at hr; cases hr
        | some v =>
          rw [hv] at hr
          obtain ⟨h4, h5⟩ := fin _ _ hr
          exact go ⟨true, v, undefA, h, h⟩ _ _ ⟨rfl, rfl, fun hh _ => by rw [hc0] at hh; cases hh⟩ (fun m => by rw [run, hw]; simp only [hc0, hv]) h4 h5
      | false =>
        by_cases hld : ∃ g x, i.mi.op = .load g x
        · obtain ⟨g, xx, hld⟩ := hld
          have hc1 : i.cls = 1 := by rw [hcl']; unfold clsOf; rw [hp, hld]; rfl
          rw [hld] at hr
          simp only [isCall, opA] at hr
          cases hv : loadA g (rd e xx) h with
          | none => rw [hv] at hr; cases hr
          | some v =>
            rw [hv] at hr
            obtain ⟨h4, h5⟩ := fin _ _ hr
            exact go ⟨true, v, rd e xx, h, h⟩ _ _ ⟨rfl, rfl, fun _ _ => ⟨g, xx, hld, rfl, hv⟩⟩ (fun m => by rw [run, hw]; simp only [hc1, hld, hv]) h4 h5
        · have hc2 : i.cls = 2 := by
            rw [hcl']; unfold clsOf; rw [hp]
            simp only [Bool.false_eq_true, if_false]
            split
            · rename_i g x hh; exact absurd ⟨g, x, hh⟩ hld
            · rfl
          split at hr
          · rename_i hcl2
            split at hr
            · rename_i f args hca
              split at hr
              · rename_i y v h2 hrun
                obtain ⟨h4, h5⟩ := fin _ _ hr
                exact go ⟨true, v, undefA, h, h2⟩ _ _ ⟨rfl, rfl, fun hh _ => by rw [hc2] at hh; cases hh⟩ (fun m => by rw [run, hw]; simp only [hc2, hcl2, hca]; rw [run_le (Nat.le_add_right n m) hrun]) h4 h5
              · cases hr
            · cases hr
          · rename_i hcl2
            split at hr
            · rename_i v h2 hop
              obtain ⟨h4, h5⟩ := fin _ _ hr
              exact go ⟨true, v, undefA, h, h2⟩ _ _ ⟨rfl, rfl, fun hh _ => by rw [hc2] at hh; cases hh⟩ (fun m => by rw [run, hw]; simp only [hc2, hcl2, hop]) h4 h5
            · cases hr
end
end Go.Jx
namespace Go.Jx
open Go
theorem W_cat {D : Nat → Option MFunc} {Q : Ex → List AV → Heap → Prop} {e : List AV} {h : Heap} {dst : Option Nat} {r : List MI} {q : EqQ} {x y : Rnd} {a b : List UInt8} (hx : rd e x = .sc (.str a)) (hy : rd e y = .sc (.str b)) (hl : a.length + b.length ≤ 9223372036854775807)
    (k : W D (.ops r (put e dst (.sc (.str (a ++ b)))) h) Q) : W D (.ops (⟨dst, .bin .add q x y, none⟩ :: r) e h) Q :=
  W_bin hx hy (by show strA .add a b = _; unfold strA; simp only; rw [if_neg]; rw [show IntKind.i64.max = 9223372036854775807 by decide]; omega) k
end Go.Jx
