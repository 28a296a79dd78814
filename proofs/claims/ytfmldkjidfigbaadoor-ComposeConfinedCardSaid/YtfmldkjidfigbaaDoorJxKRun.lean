/-
  The plain machine again, cut small, so that the kernel computes it faster; it answers the same.
-/
import Derived.Test.YtfmldkjidfigbaaDoorJxTop
namespace Go.Jx
open Go

abbrev Rn := Job → Option Out

def kSeq (rec : Rn) (b : MCode) : Option Out → Option Out
  | some (.normal, e', h') => rec (.code b e' h')
  | r => r
def kCond (rec : Rn) (a b : MCode) (e : List AV) (h : Heap) : AV → Option Out
  | .sc (.bool true) => rec (.code a e h)
  | .sc (.bool false) => rec (.code b e h)
  | _ => none
def kBlock (id : Nat) : Option Out → Option Out
  | some (.exit j, e', h') => if j = id then some (.normal, e', h') else some (.exit j, e', h')
  | r => r
def kKnown (h : Heap) : List AV → Option Out
  | [] => some (.ret, [.sc (.bool true)], h)
  | _ => none

def kCode (rec : Rn) (e : List AV) (h : Heap) : MCode → Option Out
  | .bad => none
  | .skip => some (.normal, e, h)
  | .known => kKnown h e
  | .ops l => rec (.ops l e h)
  | .draw l => rec (.dops l l e h [])
  | .seq a b => kSeq rec b (rec (.code a e h))
  | .cond c a b => kCond rec a b e h (rd e c)
  | .block id a => kBlock id (rec (.code a e h))
  | .loop a => kSeq rec (.loop a) (rec (.code a e h))
  | .exit id => some (.exit id, e, h)
  | .ret => some (.ret, e, h)

def kRet (rec : Rn) (r : List MI) (e : List AV) (dst : Option Nat) : Option Out → Option Out
  | some (_, [v], h') => rec (.ops r (put e dst v) h')
  | _ => none
def kCall (rec : Rn) (r : List MI) (e : List AV) (dst : Option Nat) (h : Heap) : Option (Nat × List AV) → Option Out
  | some (f, args) => kRet rec r e dst (rec (.call f args h))
  | none => none
def kAct (rec : Rn) (r : List MI) (e : List AV) (dst : Option Nat) : Option (AV × Heap) → Option Out
  | some (v, h') => rec (.ops r (put e dst v) h')
  | none => none
def kOp (rec : Rn) (i : MI) (r : List MI) (e : List AV) (h : Heap) : Bool → Option Out
  | true => kCall rec r e i.dst h (calleeA i.op e)
  | false => kAct rec r e i.dst (opA i.op e h)
def kWant (rec : Rn) (i : MI) (r : List MI) (e : List AV) (h : Heap) : Bool → Option Out
  | false => rec (.ops r (put e i.dst undefA) h)
  | true => kOp rec i r e h (isCall i.op)
def kOps (rec : Rn) (e : List AV) (h : Heap) : List MI → Option Out
  | [] => some (.normal, e, h)
  | i :: r => kWant rec i r e h (wantedA e i.guard)

def kdRet (rec : Rn) (r full : List DI) (e : List AV) (dst : Option Nat) (h : Heap) (acc : List Rec) : Option Out → Option Out
  | some (_, [v], h') => rec (.dops r full (put e dst v) h' (⟨true, v, undefA, h, h'⟩ :: acc))
  | _ => none
def kdCall (rec : Rn) (r full : List DI) (e : List AV) (dst : Option Nat) (h : Heap) (acc : List Rec) : Option (Nat × List AV) → Option Out
  | some (f, args) => kdRet rec r full e dst h acc (rec (.call f args h))
  | none => none
def kdAct (rec : Rn) (r full : List DI) (e : List AV) (dst : Option Nat) (h : Heap) (acc : List Rec) : Option (AV × Heap) → Option Out
  | some (v, h') => rec (.dops r full (put e dst v) h' (⟨true, v, undefA, h, h'⟩ :: acc))
  | none => none
def kdOp (rec : Rn) (i : DI) (r full : List DI) (e : List AV) (h : Heap) (acc : List Rec) : Bool → Option Out
  | true => kdCall rec r full e i.mi.dst h acc (calleeA i.mi.op e)
  | false => kdAct rec r full e i.mi.dst h acc (opA i.mi.op e h)
def kdPure (rec : Rn) (r full : List DI) (e : List AV) (dst : Option Nat) (h : Heap) (acc : List Rec) : Option AV → Option Out
  | some v => rec (.dops r full (put e dst v) h (⟨true, v, undefA, h, h⟩ :: acc))
  | none => none
def kdLoad (rec : Rn) (r full : List DI) (e : List AV) (dst : Option Nat) (h : Heap) (acc : List Rec) (x : AV) : Option AV → Option Out
  | some v => rec (.dops r full (put e dst v) h (⟨true, v, x, h, h⟩ :: acc))
  | none => none
def kdLd (rec : Rn) (i : DI) (r full : List DI) (e : List AV) (h : Heap) (acc : List Rec) : MOp → Option Out
  | .load agg x => kdLoad rec r full e i.mi.dst h acc (rd e x) (loadA agg (rd e x) h)
  | _ => none
def kdCls (rec : Rn) (i : DI) (r full : List DI) (e : List AV) (h : Heap) (acc : List Rec) : Nat → Option Out
  | 0 => kdPure rec r full e i.mi.dst h acc (pureA i.mi.op e)
  | 1 => kdLd rec i r full e h acc i.mi.op
  | _ => kdOp rec i r full e h acc (isCall i.mi.op)
def kdWant (rec : Rn) (i : DI) (r full : List DI) (e : List AV) (h : Heap) (acc : List Rec) : Bool → Option Out
  | false => rec (.dops r full (put e i.mi.dst undefA) h (⟨false, undefA, undefA, h, h⟩ :: acc))
  | true => kdCls rec i r full e h acc i.cls
def kDops (rec : Rn) (full : List DI) (e : List AV) (h : Heap) (acc : List Rec) : List DI → Option Out
  | [] => if checkLoads acc.reverse full acc.reverse then some (.normal, e, h) else none
  | i :: r => kdWant rec i r full e h acc (wantedA e i.mi.guard)

def kFin (rs : List MRes) : Option Out → Option Out
  | some (.normal, e, h') => (resultsA rs e h').map fun v => (.ret, [v], h')
  | some (.ret, e, h') => (resultsA rs e h').map fun v => (.ret, [v], h')
  | _ => none
def kFn (rec : Rn) (args : List AV) (h : Heap) : Option MFunc → Option Out
  | none => none
  | some m => kFin m.results (rec (.code m.code (args ++ List.replicate (m.ntmps - args.length) undefA) h))

def kStep (D : Nat → Option MFunc) (rec : Rn) : Job → Option Out
  | .code c e h => kCode rec e h c
  | .ops l e h => kOps rec e h l
  | .dops l full e h acc => kDops rec full e h acc l
  | .call f args h => kFn rec args h (D f)

def kRun (D : Nat → Option MFunc) (n : Nat) : Rn := Nat.rec (motive := fun _ => Rn) (fun _ => none) (fun _ ih j => kStep D ih j) n

theorem kRun_succ (D : Nat → Option MFunc) (n : Nat) (j : Job) : kRun D (n + 1) j = kStep D (kRun D n) j := rfl

theorem kRun_eq (D : Nat → Option MFunc) : ∀ (n : Nat) (j : Job), kRun D n j = run D n j := by
  intro n
  induction n with
  | zero => intro j; simp only [run]; rfl
  | succ n ih =>
    intro j
    rw [kRun_succ]
    have hr : kRun D n = run D n := funext ih
    rw [hr]
    cases j with
    | code c e h =>
      cases c <;> simp only [kStep, kCode, run]
      case known => unfold kKnown; rfl
      case seq a b => unfold kSeq; rfl
      case cond c a b => unfold kCond; rfl
      case block id a => unfold kBlock; rfl
      case loop a => unfold kSeq; rfl
    | ops l e h =>
      cases l with
      | nil => simp only [kStep, kOps, run]
      | cons i r =>
        simp only [kStep, kOps, run]
        unfold kWant
        cases wantedA e i.guard with
        | false => rfl
        | true =>
          simp only
          unfold kOp
          cases isCall i.op with
          | true => simp only; unfold kCall kRet; rfl
          | false => simp only; unfold kAct; rfl
    | dops l full e h acc =>
      cases l with
      | nil => simp only [kStep, kDops, run]
      | cons i r =>
        simp only [kStep, kDops, run]
        unfold kdWant
        cases wantedA e i.mi.guard with
        | false => rfl
        | true =>
          simp only
          generalize i.cls = c
          match c with
          | 0 => simp only [kdCls]; unfold kdPure; rfl
          | 1 => simp only [kdCls]; unfold kdLd kdLoad; rfl
          | c + 2 =>
            simp only [kdCls]
            unfold kdOp
            cases isCall i.mi.op with
            | true => simp only; unfold kdCall kdRet; rfl
            | false => simp only; unfold kdAct; rfl
    | call f args h =>
      simp only [kStep, run]
      unfold kFn kFin
      cases D f <;> rfl

end Go.Jx
