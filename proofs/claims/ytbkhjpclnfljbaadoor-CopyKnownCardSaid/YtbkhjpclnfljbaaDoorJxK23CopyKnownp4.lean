/- CopyKnown: the plain machine runs it, part 4. -/
import Derived.Test.YtbkhjpclnfljbaaDoorJxK23CopyKnownp3
import Derived.Test.YtbkhjpclnfljbaaDoorJxW9
set_option linter.unusedVariables false
set_option maxHeartbeats 4000000
namespace Go.Proofs.YtbkhjpclnfljbaaDoor
open Go Go.Jx
set_option maxRecDepth 100000 in
theorem copyKnown_p4 : (kRun DD 200000 (.code (.seq (.ops m5_r30) (.seq (.ops m5_r31) (.seq (.ops m5_r32) (.seq (.ops m5_r33) (.seq (.ops m5_r34) (.seq (.ops m5_r35) (.seq (.ops m5_r36) (.seq (.ops m5_r37) .ret)))))))) copyKnown_e4 copyKnown_h4)).map (fun o => (o.1, o.2.1.getD 0 undefA)) = some (.ret, .sc (.bool true)) := by kernel_rfl
theorem copyKnown_w : W DD (.call 5 [] (HL Tryd.prog.globals.size jxLs)) (fun _ vs _ => vs = [.sc (.bool true)]) := by
  refine W_enter d5 ?_
  show W DD (.code (.seq (.ops m5_r0) (.seq (.ops m5_r1) (.seq (.seq (.ops m5_r2) (.cond (.t 40) (.seq (.ops m5_r3) .ret) .skip)) (.seq (.ops m5_r4) (.seq (.ops m5_r5) (.seq (.ops m5_r6) (.seq (.ops m5_r7) (.seq (.ops m5_r8) (.seq (.ops m5_r9) (.seq (.ops m5_r10) (.seq (.ops m5_r11) (.seq (.ops m5_r12) (.seq (.ops m5_r13) (.seq (.ops m5_r14) (.seq (.ops m5_r15) (.seq (.ops m5_r16) (.seq (.seq (.ops m5_r17) (.cond (.t 145) (.seq (.ops m5_r18) .ret) .skip)) (.seq (.ops m5_r19) (.seq (.ops m5_r20) (.seq (.ops m5_r21) (.seq (.ops m5_r22) (.seq (.ops m5_r23) (.seq (.ops m5_r24) (.seq (.ops m5_r25) (.seq (.ops m5_r26) (.seq (.ops m5_r27) (.seq (.ops m5_r28) (.seq (.ops m5_r29) (.seq (.ops m5_r30) (.seq (.ops m5_r31) (.seq (.ops m5_r32) (.seq (.ops m5_r33) (.seq (.ops m5_r34) (.seq (.ops m5_r35) (.seq (.ops m5_r36) (.seq (.ops m5_r37) .ret)))))))))))))))))))))))))))))))))))) (List.replicate 265 undefA) (HL Tryd.prog.globals.size jxLs)) _
  refine W_assoc ?_
  refine W_assoc ?_
  refine W_assoc ?_
  have r0 := copyKnown_p0; rw [kRun_eq] at r0
  refine W_seq (W_run r0 (seqK_n ?_))
  refine W_assoc ?_
  refine W_assoc ?_
  have r1 := copyKnown_p1; rw [kRun_eq] at r1
  refine W_seq (W_run r1 (seqK_n ?_))
  refine W_assoc ?_
  refine W_assoc ?_
  refine W_assoc ?_
  refine W_assoc ?_
  refine W_assoc ?_
  refine W_assoc ?_
  refine W_assoc ?_
  refine W_assoc ?_
  have r2 := copyKnown_p2; rw [kRun_eq] at r2
  refine W_seq (W_run r2 (seqK_n ?_))
  refine W_assoc ?_
  refine W_assoc ?_
  refine W_assoc ?_
  refine W_assoc ?_
  refine W_assoc ?_
  refine W_assoc ?_
  refine W_assoc ?_
  refine W_assoc ?_
  refine W_assoc ?_
  refine W_assoc ?_
  refine W_assoc ?_
  have r3 := copyKnown_p3; rw [kRun_eq] at r3
  refine W_seq (W_run r3 (seqK_n ?_))
  refine W_closed rfl ⟨200000, ?_⟩
  have r := copyKnown_p4; rw [kRun_eq] at r; exact r
end Go.Proofs.YtbkhjpclnfljbaaDoor
