/- ReflowKnown: the plain machine runs it, part 2. -/
import Derived.Test.YtllhbhhgihdakaaDoorJxK15ReflowKnownp1
import Derived.Test.YtllhbhhgihdakaaDoorJxW9
set_option linter.unusedVariables false
set_option maxHeartbeats 4000000
namespace Go.Proofs.YtllhbhhgihdakaaDoor
open Go Go.Jx
set_option maxRecDepth 100000 in
theorem reflowKnown_p2 : (kRun DD 200000 (.code (.seq (.ops m7_r14) (.seq (.ops m7_r15) (.seq (.ops m7_r16) .ret))) reflowKnown_e2 reflowKnown_h2)).map (fun o => (o.1, o.2.1.getD 0 undefA)) = some (.ret, .sc (.bool true)) := by kernel_rfl
theorem reflowKnown_w : W DD (.call 7 [] (HL Tryd.prog.globals.size jxLs)) (fun _ vs _ => vs = [.sc (.bool true)]) := by
  refine W_enter d7 ?_
  show W DD (.code (.seq (.ops m7_r0) (.seq (.ops m7_r1) (.seq (.seq (.ops m7_r2) (.block 0 (.loop m7_l3))) (.seq (.ops m7_r9) (.seq (.ops m7_r10) (.seq (.ops m7_r11) (.seq (.ops m7_r12) (.seq (.ops m7_r13) (.seq (.ops m7_r14) (.seq (.ops m7_r15) (.seq (.ops m7_r16) .ret))))))))))) (List.replicate 160 undefA) (HL Tryd.prog.globals.size jxLs)) _
  refine W_assoc ?_
  refine W_assoc ?_
  have r0 := reflowKnown_p0; rw [kRun_eq] at r0
  refine W_seq (W_run r0 (seqK_n ?_))
  refine W_assoc ?_
  refine W_assoc ?_
  refine W_assoc ?_
  refine W_assoc ?_
  have r1 := reflowKnown_p1; rw [kRun_eq] at r1
  refine W_seq (W_run r1 (seqK_n ?_))
  refine W_closed rfl ⟨200000, ?_⟩
  have r := reflowKnown_p2; rw [kRun_eq] at r; exact r
end Go.Proofs.YtllhbhhgihdakaaDoor
