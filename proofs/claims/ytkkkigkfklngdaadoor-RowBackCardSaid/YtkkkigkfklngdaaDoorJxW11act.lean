/- Acts on rows. -/
import Derived.Test.YtkkkigkfklngdaaDoorJxW11rowp
import Derived.Test.YtkkkigkfklngdaaDoorJxE11
set_option linter.unusedSimpArgs false
set_option linter.unusedVariables false
set_option maxHeartbeats 2000000
set_option maxRecDepth 100000
namespace Go.Proofs.YtkkkigkfklngdaaDoor
open Go Go.Jx

structure Act where
  d : Int
  x : Int
  n : Int
  r : Int
  w : Bool
  a : Attr
def act0 : Act := ⟨0, 0, 0, 0, false, attr0⟩
def actE : El Act := ⟨10, fun c => [.int .u8 c.d, .int .i64 c.x, .int .i64 c.n, .int .i32 c.r, .bool c.w, .int .u16 c.a.f, .int .u8 c.a.fk, .int .u32 c.a.fn, .int .u8 c.a.bk, .int .u32 c.a.bn], fun l => match l with | [.int _ d, .int _ x, .int _ n, .int _ r, .bool w, .int _ f, .int _ fk, .int _ fn, .int _ bk, .int _ bn] => ⟨d, x, n, r, w, ⟨f, fk, fn, bk, bn⟩⟩ | _ => act0, act0, fun _ => rfl, by decide, fun _ => rfl⟩

theorem w9 (h : Heap) : Wc DD 9 [] h fun v h' => v = .sc (.bool true) ∧ h' = h := W_known rfl

theorem openAct {H : Heap} {l : List SV} (o : OpenL H [.int .u8, .int .i64, .int .i64, .int .i32, .bool, .int .u16, .int .u8, .int .u32, .int .u8, .int .u32] l) : ∃ a, l = actE.enc a ∧ (-9223372036854775808 ≤ a.x ∧ a.x ≤ 9223372036854775807) := by
  simp only [OpenL, OpenS] at o
  obtain ⟨_, _, rfl, ⟨d, rfl, _⟩, _, _, rfl, ⟨x, rfl, hx⟩, _, _, rfl, ⟨n, rfl, _⟩, _, _, rfl, ⟨r, rfl, _⟩, _, _, rfl, ⟨w, rfl⟩, _, _, rfl, ⟨f, rfl, _⟩, _, _, rfl, ⟨fk, rfl, _⟩, _, _, rfl, ⟨fn, rfl, _⟩, _, _, rfl, ⟨bk, rfl, _⟩, _, _, rfl, ⟨bn, rfl, _⟩, rfl⟩ := o
  exact ⟨⟨d, x, n, r, w, ⟨f, fk, fn, bk, bn⟩⟩, rfl, hx⟩
end Go.Proofs.YtkkkigkfklngdaaDoor
