/- Compose: the law ComposeTidies, of all that it may be handed. -/
import Derived.Test.YtfmldkjidfigbaaDoorJxW25c
set_option linter.unusedSimpArgs false
set_option linter.unusedVariables false
set_option maxHeartbeats 1000000
set_option maxRecDepth 100000
namespace Go.Proofs.YtfmldkjidfigbaaDoor
open Go Go.Jx

theorem openCell' {h : Heap} {l : List SV} (o : OpenL h [.int .i32, .int .u8, .int .u16, .int .u8, .int .u32, .int .u8, .int .u32] l) : ∃ c : Cell, l = cellE.enc c ∧ True := by
  simp only [OpenL, OpenS] at o
  obtain ⟨_, _, rfl, ⟨r, rfl, _⟩, _, _, rfl, ⟨w, rfl, _⟩, _, _, rfl, ⟨f, rfl, _⟩, _, _, rfl, ⟨fk, rfl, _⟩, _, _, rfl, ⟨fn, rfl, _⟩, _, _, rfl, ⟨bk, rfl, _⟩, _, _, rfl, ⟨bn, rfl, _⟩, rfl⟩ := o
  exact ⟨⟨r, w, ⟨f, fk, fn, bk, bn⟩⟩, rfl, trivial⟩
def hasBB (h : Heap) : Bool := match h.get 0 with | some (.cells _ .ro cs) => decide (cs = bnd.flatMap encB) | _ => false
theorem hasB_of {h : Heap} (b : hasBB h = true) : HasB h := by
  unfold hasBB at b
  split at b
  · rename_i t cs hg
    rw [decide_eq_true_eq] at b
    subst b
    exact ⟨_, hg⟩
  · cases b
theorem hasB_start : HasB (HL Tryd.prog.globals.size jxLs) := hasB_of (by kernel_rfl)
theorem walk_composeTidies (H : Heap) (avs : List AV) (hwf : H.l.length = H.n) (hs : Sub (HL Tryd.prog.globals.size jxLs) H) (ho : OpenA H [(false, [.slice 34 7 [.int .i32, .int .u8, .int .u16, .int .u8, .int .u32, .int .u8, .int .u32]])] avs) : W DD (.call 4 avs H) (fun _ vs _ => vs = [.sc (.bool true)]) := by
  simp only [OpenA] at ho
  obtain ⟨k, s, l', hk, rfl, o1, rfl⟩ := ho
  cases hk
  obtain ⟨L, hl, _, hlen⟩ := o1.sl (enc := cellE.enc) cellE.len (fun l o => openCell' o)
  have hb : HasB H := by obtain ⟨t, b⟩ := hasB_start; exact ⟨t, hs.2 _ _ b⟩
  exact (w4 hb hl hlen).mono fun _ _ _ ⟨v, hv, h3⟩ => by rw [hv, h3]
end Go.Proofs.YtfmldkjidfigbaaDoor
