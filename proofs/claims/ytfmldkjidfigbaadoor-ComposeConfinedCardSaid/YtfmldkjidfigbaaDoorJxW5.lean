/-
  Walking, fifth part: drawn regions in which memory only grows.
-/
import Derived.Test.YtfmldkjidfigbaaDoorJxW4
set_option linter.unusedVariables false
set_option linter.unusedSimpArgs false
namespace Go.Jx
open Go

/-- What is written down, memory growing from one to the next. -/
def GRecs : Heap → List DI → List Rec → Prop
  | _, [], [] => True
  | h, d :: l, r :: rs => (∃ e, RecIs d e h r.h' r) ∧ Sub h r.h' ∧ GRecs r.h' l rs
  | _, _, _ => False
theorem GRecs.nil (h : Heap) : GRecs h [] [] := trivial
theorem GRecs.cons {h h1 : Heap} {d : DI} {l : List DI} {r : Rec} {rs : List Rec} {e : List AV} (hr : RecIs d e h h1 r) (s : Sub h h1) (k : GRecs h1 l rs) : GRecs h (d :: l) (r :: rs) := by
  obtain ⟨h1', rfl, h3⟩ := hr
  exact ⟨⟨e, h1', rfl, h3⟩, s, k⟩
theorem GRecs.length : ∀ {h : Heap} {l : List DI} {rs : List Rec}, GRecs h l rs → rs.length = l.length
  | _, [], [], _ => rfl
  | _, d :: l, r :: rs, k => by simp [GRecs.length k.2.2]
/-- From a place on, all memory is bigger. -/
theorem GRecs.sub : ∀ {h : Heap} {l : List DI} {rs : List Rec}, GRecs h l rs → ∀ r ∈ rs, Sub h r.h ∧ Sub h r.h'
  | _, [], [], _, r, hr => by cases hr
  | h, d :: l, r0 :: rs, k, r, hr => by
    rcases List.mem_cons.1 hr with rfl | hr
    · obtain ⟨e, h1, h2, _⟩ := k.1
      exact ⟨by rw [h1]; exact Sub.refl _, k.2.1⟩
    · have := GRecs.sub k.2.2 r hr
      exact ⟨k.2.1.trans this.1, k.2.1.trans this.2⟩

def idxG (n : Nat) : Nat → List DI → Bool
  | _, [] => true
  | i, d :: l => (d.lo.all fun j => decide (i ≤ j ∧ j < n)) && (d.hi.all fun j => decide (i ≤ j ∧ j < n)) && idxG n (i + 1) l

theorem loadA_sub {agg : Option Nat} {u : AV} {h h' : Heap} {v : AV} (s : Sub h h') (hl : loadA agg u h = some v) : loadA agg u h' = some v := by
  unfold loadA at hl ⊢
  split at hl
  · split at hl
    · rename_i hg
      rw [s.2 _ _ hg]; exact hl
    · cases hl
  · cases hl

theorem checkLoads_grow : ∀ (l : List DI) (rs : List Rec) (h : Heap) (pre : List Rec), idxG (pre.length + rs.length) pre.length l = true → GRecs h l rs → checkLoads (pre ++ rs) l rs = true
  | [], [], _, _, _, _ => by unfold checkLoads; rfl
  | d :: l, r :: rs, h, pre, hi, k => by
    unfold idxG at hi
    rw [Bool.and_eq_true, Bool.and_eq_true] at hi
    have ih := checkLoads_grow l rs r.h' (pre ++ [r]) (by
      rw [List.length_append, List.length_singleton]
      have := hi.2
      rw [List.length_cons] at this
      rw [show pre.length + 1 + rs.length = pre.length + (rs.length + 1) from by omega]
      exact this) k.2.2
    rw [List.append_assoc, List.singleton_append] at ih
    unfold checkLoads
    rw [ih, Bool.and_true]
    have hall := GRecs.sub (l := d :: l) (rs := r :: rs) k
    obtain ⟨e, h1, h2, h3⟩ := k.1
    by_cases hc : d.cls = 1
    · cases hon : r.on with
      | false => simp
      | true =>
        obtain ⟨agg, x, hop, hx, hv⟩ := h3 hc hon
        rw [hop]
        have get : ∀ j, pre.length ≤ j ∧ j < pre.length + (r :: rs).length → ∃ q, (pre ++ r :: rs)[j]? = some q ∧ q ∈ r :: rs := by
          intro j hj
          rw [List.getElem?_append_right hj.1]
          have hlt : j - pre.length < (r :: rs).length := by omega
          exact ⟨_, List.getElem?_eq_getElem hlt, List.getElem_mem hlt⟩
        rw [Bool.or_eq_true, Bool.and_eq_true]
        refine .inr ⟨List.all_eq_true.2 fun j hj => ?_, List.all_eq_true.2 fun j hj => ?_⟩
        · obtain ⟨q, hq, hm⟩ := get j (of_decide_eq_true (List.all_eq_true.1 hi.1.1 j hj))
          rw [hq]; exact loadIs_refl (loadA_sub (hall q hm).1 hv)
        · obtain ⟨q, hq, hm⟩ := get j (of_decide_eq_true (List.all_eq_true.1 hi.1.2 j hj))
          rw [hq]; exact loadIs_refl (loadA_sub (hall q hm).2 hv)
    · have : (d.cls != 1) = true := by simpa using hc
      rw [this]; rfl

theorem W_dgrow {D : Nat → Option MFunc} {Q : Ex → List AV → Heap → Prop} {e : List AV} {h h0 : Heap} {full : List DI} {acc rs : List Rec} (hrev : acc.reverse = rs) (hi : idxG full.length 0 full = true) (hr : GRecs h0 full rs) (k : Q .normal e h) : W D (.dops [] full e h acc) Q := by
  subst hrev
  refine W_dnil ?_ k
  have := checkLoads_grow full acc.reverse h0 [] (by rw [List.length_nil, Nat.zero_add, hr.length]; exact hi) hr
  simpa using this
end Go.Jx
namespace Go.Jx
open Go
/-! ## bytes as a string -/
def encB (b : UInt8) : List SV := [.int .u8 (b.toNat : Int)]
theorem bytes_cells (L : List UInt8) : bytesOfCells (L.flatMap encB) = some L := by
  induction L with
  | nil => rfl
  | cons b L ih =>
    rw [List.flatMap_cons]
    show bytesOfCells (.int .u8 (b.toNat : Int) :: L.flatMap encB) = _
    unfold bytesOfCells
    have := b.toNat_lt
    rw [if_pos (by omega), ih]
    simp
theorem W_bytesStr {D : Nat → Option MFunc} {Q : Ex → List AV → Heap → Prop} {e : List AV} {h : Heap} {dst : Option Nat} {r : List MI} {x : Rnd} {v : SV} {L : List UInt8} (hv : Sl encB 1 h v L) (hx : rd e x = .sc v)
    (k : W D (.ops r (put e dst (.sc (.str L))) h) Q) : W D (.ops (⟨dst, .conv .bytesStr x, none⟩ :: r) e h) Q := by
  obtain ⟨h1, h2⟩ := Sl.first (enc := encB) (n := 1) (fun _ => rfl) (by decide) hv
  refine W_act rfl (v := .sc (.str L)) (h' := h) ?_ k
  show convA .bytesStr (rd e x) h = _
  rw [hx]
  rcases hv with ⟨rfl, rfl | ⟨b, rfl⟩⟩ | ⟨id, off, cap, t, kd, cs, rfl, _⟩ <;> (unfold convA; simp only [h1, h2, bytes_cells, Option.map_some])
end Go.Jx
