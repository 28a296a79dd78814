/- ComposeKnown: the plain machine runs it, part 2. -/
import Derived.Test.YtfmldkjidfigbaaDoorJxK25ComposeKnownp1
import Derived.Test.YtfmldkjidfigbaaDoorJxW9
set_option linter.unusedVariables false
set_option maxHeartbeats 4000000
namespace Go.Proofs.YtfmldkjidfigbaaDoor
open Go Go.Jx
set_option maxRecDepth 100000 in
theorem composeKnown_p2 : (kRun DD 200000 (.code (.seq (.ops m3_r7) (.seq (.ops m3_r8) (.seq (.ops m3_r9) (.seq (.ops m3_r10) .ret)))) composeKnown_e2 composeKnown_h2)).map (fun o => (o.1, o.2.1.getD 0 undefA)) = some (.ret, .sc (.bool true)) := by kernel_rfl
theorem composeKnown_w : W DD (.call 3 [] (HL Tryd.prog.globals.size jxLs)) (fun _ vs _ => vs = [.sc (.bool true)]) := by
  refine W_enter d3 ?_
  show W DD (.code (.seq (.ops m3_r0) (.seq (.ops m3_r1) (.seq (.ops m3_r2) (.seq (.ops m3_r3) (.seq (.ops m3_r4) (.seq (.ops m3_r5) (.seq (.ops m3_r6) (.seq (.ops m3_r7) (.seq (.ops m3_r8) (.seq (.ops m3_r9) (.seq (.ops m3_r10) .ret))))))))))) (List.replicate 131 undefA) (HL Tryd.prog.globals.size jxLs)) _
  refine W_assoc ?_
  refine W_assoc ?_
  refine W_assoc ?_
  have r0 := composeKnown_p0; rw [kRun_eq] at r0
  refine W_seq (W_run r0 (seqK_n ?_))
  refine W_assoc ?_
  refine W_assoc ?_
  have r1 := composeKnown_p1; rw [kRun_eq] at r1
  refine W_seq (W_run r1 (seqK_n ?_))
  refine W_closed rfl ⟨200000, ?_⟩
  have r := composeKnown_p2; rw [kRun_eq] at r; exact r
end Go.Proofs.YtfmldkjidfigbaaDoor
