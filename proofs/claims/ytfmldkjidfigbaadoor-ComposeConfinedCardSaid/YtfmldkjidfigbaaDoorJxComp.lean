/-
  The plain machine's code, made out of the model's own code ('compile').
-/
import Derived.Test.YtfmldkjidfigbaaDoorJxCore
namespace Go.Jx
open Go

def toSV? : Value → Option SV
  | .bool b => some (.bool b)
  | .int k n => some (.int k n)
  | .string s => some (.str s.data.toList)
  | .pointer none => some .nilp
  | .slice none 0 0 => some .nils
  | .nilFunc => some .nilf
  | .nilIface => some .nili
  | _ => none

def toSVs? : List Value → Option (List SV)
  | [] => some []
  | v :: r => match toSV? v, toSVs? r with
    | some s, some l => some (s :: l)
    | _, _ => none

def toAV? : Value → Option AV
  | .agg cs => (toSVs? cs.toList).map .agg
  | v => (toSV? v).map .sc

variable (P : Program)

def rnd? : Operand → Option Rnd
  | .tmp i => some (.t i)
  | .const v => (toAV? v).map .k
  | .global g => if g < P.globals.size then some (.k (.sc (.ptr g 0))) else none
  | .func f => some (.k (.sc (.func f [])))

def rnds? : List Operand → Option (List Rnd)
  | [] => some []
  | x :: r => match rnd? P x, rnds? r with
    | some s, some l => some (s :: l)
    | _, _ => none

def rndOpt? : Option Operand → Option (Option Rnd)
  | none => some none
  | some x => (rnd? P x).map some

def zero? (t : TypeId) : Option (List SV) :=
  match P.info? t with
  | some i => (match i.zero with | some z => toSVs? z.cells.toList | none => none)
  | none => none

def size? (t : TypeId) : Option Nat := (P.info? t).map (·.size)
def bytes? (t : TypeId) : Option Nat := (P.info? t).map (·.bytes)

/-- 'some (some n)': a struct or an array of n cells; 'some none': one cell. -/
def agg? (t : TypeId) : Option (Option Nat) :=
  match P.underlying t with
  | some (.struct _) => (size? P t).map some
  | some (.array _ _) => (size? P t).map some
  | some _ => some none
  | none => none

def partsAt? (place : Nat → Option (Nat × Nat)) : List (Nat × Operand) → Option (List (Nat × Nat × Rnd))
  | [] => some []
  | (i, x) :: r =>
    match place i, rnd? P x, partsAt? place r with
    | some (off, size), some a, some l => some ((off, size, a) :: l)
    | _, _, _ => none

def placeS (fs : Array Field) (i : Nat) : Option (Nat × Nat) := (fs[i]?).bind fun f => (size? P f.type).map fun n => (f.offset, n)

def layGo (f : TypeId → Option (List LK)) : List Field → List LK → Option (List LK)
  | [], acc => some acc
  | g :: r, acc =>
    if g.name = "_" ∨ g.offset ≠ acc.length then none else
    match f g.type with
    | some ks => if size? P g.type = some ks.length then layGo f r (acc ++ ks) else none
    | none => none

/-- The leaves of a plain struct or array, cell by cell: numbers, bools, texts, and nothing that '==' would not look at. -/
def lay : Nat → TypeId → Option (List LK)
  | 0, _ => none
  | d + 1, t =>
    match P.underlying t with
    | some (.int k) => some [.int k]
    | some .bool => some [.bool]
    | some .string => some [.str]
    | some (.struct fs) => if P.stoodInHeld t then none else layGo P (lay d) fs.toList []
    | some (.array n e) => (match lay d e with | some ks => if size? P e = some ks.length then some (List.replicate n ks).flatten else none | none => none)
    | _ => none

def eqq? (op : BinOp) (t : TypeId) : Option EqQ :=
  if op = .eql ∨ op = .neq then
    match P.underlying t with
    | some .bool => some .bool
    | some (.pointer e) => (match size? P e with | some n => if n = 0 then some .no else some .ptr | none => some .no)
    | some (.slice _) => some .slice
    | some (.func _ _ _) => some .func
    | some (.struct _) => if P.eqGuardType P.depth t = false then (match lay P 20 t with | some ks => some (.agg ks) | none => some .no) else some .no
    | some (.array _ _) => if P.eqGuardType P.depth t = false then (match lay P 20 t with | some ks => some (.agg ks) | none => some .no) else some .no
    | _ => some .no
  else some .no

def cv? (src dst : TypeId) : Option Cv :=
  match P.underlying src, P.underlying dst with
  | some (.int _), some (.int k) => some (.int k)
  | some .string, some .string => some .strId
  | some (.int _), some .string => some .intStr
  | some (.pointer e), some .unsafePointer => (match size? P e with | some n => if n = 0 then none else some .ptrUnsafe | none => none)
  | some .unsafePointer, some (.pointer e) => (match size? P e with | some n => if n = 0 then none else some (.unsafePtr e n) | none => none)
  | some (.slice e), some .string => (match P.underlying e with | some (.int .u8) => some .bytesStr | some (.int .i32) => some .runesStr | _ => none)
  | _, _ => none

/-- Which functions have no body here, and what they are: 1 'abi.NoEscape', 2 'bytealg.IndexByteString'. -/
abbrev Exts := Nat → Nat

def cCall (X : Exts) (c : Call) : Option MOp :=
  match c.callee with
  | .value (.func f) =>
    (match rnds? P c.args.toList with
    | none => none
    | some as =>
      match X f with
      | 0 => some (.call f as)
      | 1 => (match as with | [x] => some (.same x) | _ => none)
      | 2 => (match as with | [x, y] => some (.indexByte x y) | _ => none)
      | _ => none)
  | .value (.tmp t) => (rnds? P c.args.toList).map fun as => .callv (.t t) as
  | .builtin b =>
    (match b, rnds? P c.args.toList, c.argTypes[0]? with
    | .append, some [s, x], some st =>
      (match P.underlying st with
      | some (.slice e) =>
        (match size? P e, bytes? P e, zero? P e, (c.argTypes[1]?).bind P.underlying with
        | some n, some b, some z, some (.slice _) => if z.length = n then some (.append e n b z s x) else none
        | some n, some b, some z, some .string => if z.length = n then some (.append e n b z s x) else none
        | _, _, _, _ => none)
      | _ => none)
    | .copy, some [d, s], some dt =>
      (match P.underlying dt with
      | some (.slice e) => (size? P e).map fun n => .copy n d s
      | _ => none)
    | .clear, some [x], some dt =>
      (match P.underlying dt with
      | some (.slice e) => (zero? P e).map fun z => .clear z x
      | _ => none)
    | .len, some [x], some t =>
      (match P.underlying t with
      | some .string => some (.lenStr x)
      | some (.slice _) => some (.lenSlice x)
      | some (.array n _) => some (.lenArr n)
      | _ => none)
    | .min, some xs, _ => some (.min xs)
    | .max, some xs, _ => some (.max xs)
    | .unsafeSliceData, some [x], _ => some (.usliceData x)
    | .unsafeString, some [x, n], some pt =>
      (match P.underlying pt with
      | some (.pointer e) => (match size? P e with | some 1 => some (.ustring e x n) | _ => none)
      | _ => none)
    | _, _, _ => none)
  | _ => none

def cOp (X : Exts) (o : Op) : Option MOp :=
  match o with
  | .move x => (rnd? P x).map .move
  | .assign x => (rnd? P x).map .move
  | .pick c a b => (match rnd? P c, rnd? P a, rnd? P b with | some c, some a, some b => some (.pick c a b) | _, _, _ => none)
  | .alloc t => (zero? P t).map fun z => .alloc t z
  | .box t x => (rnd? P x).map fun x => .box t x
  | .build t ps =>
    (match zero? P t, P.underlying t with
    | some z, some (.struct fs) => (partsAt? P (placeS P fs) ps.toList).map fun l => if (fs.toList.all fun f => (size? P f.type).isSome) then .build z l else .bad
    | some z, some (.array _ e) => (match size? P e with | some n => (partsAt? P (fun i => some (i * n, n)) ps.toList).map fun l => .build z l | none => none)
    | _, _ => none)
  | .buildSlice t len ps =>
    (match P.underlying t with
    | some (.slice e) => (match size? P e, zero? P e with
      | some n, some z => if z.length = n ∧ len * n ≤ 2 ^ 24 then (partsAt? P (fun i => some (i * n, n)) ps.toList).map fun l => .buildSlice e n len z l else none
      | _, _ => none)
    | _ => none)
  | .load t x => (match agg? P t, rnd? P x with | some a, some x => some (.load a x) | _, _ => none)
  | .store t x v => (match size? P t, rnd? P x, rnd? P v with | some n, some x, some v => some (.store n x v) | _, _, _ => none)
  | .nilCheck x => (rnd? P x).map .nilCheck
  | .binOp op t x y _ => (match eqq? P op t, rnd? P x, rnd? P y with | some q, some x, some y => some (.bin op q x y) | _, _, _ => none)
  | .unOp op _ x => (rnd? P x).map fun x => .un op x
  | .convert s d x => (match cv? P s d, rnd? P x with | some c, some x => some (.conv c x) | _, _ => none)
  | .makeFunc fn first caps => (match fn with | .func f => if first.size = 0 then (rnds? P caps.toList).map fun l => .makeFunc f l else none | _ => none)
  | .makeSlice t l c =>
    (match P.underlying t with
    | some (.slice e) => (match size? P e, bytes? P e, zero? P e, rnd? P l, rnd? P c with
      | some n, some b, some z, some l, some c => if z.length = n then some (.makeSlice e n b z l c) else none
      | _, _, _, _, _ => none)
    | _ => none)
  | .slice t x lo hi mx =>
    if mx.isSome then none else
    (match P.underlying t, rnd? P x, rndOpt? P lo, rndOpt? P hi with
    | some .string, some x, some lo, some hi => some (.sliceStr x lo hi)
    | some (.slice e), some x, some lo, some hi => (size? P e).map fun n => .slice n x lo hi
    | some (.array n e), some x, some lo, some hi => (size? P e).map fun m => .sliceArr n m x lo hi
    | _, _, _, _ => none)
  | .fieldAddr t x f =>
    (match P.underlying t, rnd? P x with
    | some (.struct fs), some x => (match fs[f]? with
      | some g => (match size? P g.type with | some n => if n = 0 then none else some (.fieldAddr g.offset x) | none => none)
      | none => none)
    | _, _ => none)
  | .field t x f =>
    (match P.underlying t, rnd? P x with
    | some (.struct fs), some x => (match fs[f]? with
      | some g => (agg? P g.type).map fun a => .field g.offset a x
      | none => none)
    | _, _ => none)
  | .indexAddr t x i =>
    (match P.underlying t, rnd? P x, rnd? P i with
    | some (.slice e), some x, some i => (size? P e).map fun n => .indexSlice n x i
    | some (.array len e), some x, some i => (size? P e).map fun n => .indexArr len n x i
    | _, _, _ => none)
  | .index t x i =>
    (match P.underlying t, rnd? P x, rnd? P i with
    | some .string, some x, some i => some (.idxStr x i)
    | some (.array len e), some x, some i => (match size? P e, agg? P e with
      | some n, some a => some (.idxArr len n a x i)
      | _, _ => none)
    | _, _, _ => none)
  | .range t x => (match P.underlying t, rnd? P x with | some .string, some x => some (.range x) | _, _ => none)
  | .next x b => if b then (rnd? P x).map .next else none
  | .extract x i => (rnd? P x).map fun x => .extract x i
  | .call c => cCall P X c
  | _ => none

def cGuard (ops : List Oper) : Option (Nat × Bool) → Option (Option (Nat × Bool))
  | none => some none
  | some (j, b) => match (ops[j]?).bind (·.dst) with
    | some t => some (some (t, b))
    | none => none

def cOper (X : Exts) (ops : List Oper) (o : Oper) : MI :=
  match cOp P X o.op, cGuard ops o.guard with
  | some m, some g => ⟨o.dst, m, g⟩
  | _, _ => ⟨none, .bad, none⟩

def isPure : MOp → Bool
  | .move _ | .pick _ _ _ | .build _ _ | .nilCheck _ | .bin _ _ _ _ | .un _ _ | .conv (.int _) _ | .makeFunc _ _ | .sliceStr _ _ _ | .slice _ _ _ _ | .fieldAddr _ _ | .field _ _ _
  | .indexSlice _ _ _ | .indexArr _ _ _ _ | .idxArr _ _ _ _ _ | .idxStr _ _ | .extract _ _ | .lenStr _ | .lenSlice _ | .lenArr _ | .min _ | .max _ | .same _ | .indexByte _ _ => true
  | _ => false

/-- The slots that an operation reads. -/
def rndT : Rnd → List Nat
  | .t i => [i]
  | .k _ => []

def reads : MOp → List Nat
  | .bad => []
  | .move x | .nilCheck x | .un _ x | .conv _ x | .fieldAddr _ x | .field _ _ x | .range x | .next x | .extract x _ | .clear _ x | .lenStr x | .lenSlice x | .usliceData x | .same x | .load _ x | .box _ x => rndT x
  | .alloc _ _ | .lenArr _ => []
  | .pick a b c => rndT a ++ rndT b ++ rndT c
  | .build _ ps | .buildSlice _ _ _ _ ps => ps.flatMap fun p => rndT p.2.2
  | .store _ x y | .bin _ _ x y | .makeSlice _ _ _ _ x y | .indexSlice _ x y | .indexArr _ _ x y | .idxArr _ _ _ x y | .idxStr x y | .append _ _ _ _ x y | .copy _ x y | .ustring _ x y | .indexByte x y => rndT x ++ rndT y
  | .makeFunc _ l | .min l | .max l | .call _ l => l.flatMap rndT
  | .callv x l => rndT x ++ l.flatMap rndT
  | .sliceStr x lo hi | .slice _ x lo hi | .sliceArr _ _ x lo hi => rndT x ++ (lo.toList.flatMap rndT) ++ (hi.toList.flatMap rndT)

def miReads (m : MI) : List Nat := reads m.op ++ (match m.guard with | some (t, _) => [t] | none => [])

/-- For each operation the set of those that stand ahead of it in whatever order (a number's bits). -/
def tblGo : List (List Nat) → List Nat → List Nat
  | [], acc => acc
  | a :: r, acc => tblGo r (acc ++ [a.foldl (fun s j => s ||| 2 ^ j ||| acc.getD j 0) 0])

def ahead (tb : List Nat) (k i : Nat) : Bool := (tb.getD k 0).testBit i

def clsOf (m : MOp) : Nat := if isPure m then 0 else match m with | .load _ _ => 1 | _ => 2

/-- The static conditions under which the text's order tells all orders. -/
def drawOk (ons : List (List Nat)) (tb : List Nat) (ms : List MI) : Bool :=
  let n := ms.length
  let idx := List.range n
  let acts := idx.filter fun i => match ms[i]? with | some m => clsOf m.op == 2 | none => false
  (ons.length == n) &&
  (idx.all fun k => (ons.getD k []).all fun j => decide (j < k)) &&
  (acts.all fun i => acts.all fun j => decide (j ≤ i) || ahead tb j i) &&
  (idx.all fun i => idx.all fun j => i == j ||
    match ms[i]?, ms[j]? with
    | some mi, some mj =>
      (match mj.dst with
      | some d => (mi.dst != some d) && (!(miReads mi).contains d || (if j < i then ahead tb i j else ahead tb j i))
      | none => true)
    | _, _ => true)

def mkDI (tb : List Nat) (acts : List Nat) (i : Nat) (m : MI) : DI :=
  ⟨m, clsOf m.op, acts.filter fun j => decide (j < i) && !ahead tb i j, acts.filter fun j => decide (i < j) && !ahead tb j i⟩

def isFl (m : MI) : Bool := (match m.dst, m.op, m.guard with | some _, .alloc _ _, none => true | _, _, _ => false)
def toF (m : MI) : MI := (match m.dst, m.op, m.guard with | some d, .alloc _ _, none => ⟨some d, .move (.t d), none⟩ | _, _, _ => m)


/-- No operation ahead of the new cell reads its slot. -/
def lateOk (ms : List MI) : Bool :=
  let idx := List.range ms.length
  idx.all fun i => idx.all fun j => !decide (i < j) ||
    match (ms.map toF)[i]?, ms[j]? with
    | some mi, some mj => !isFl mj || (match mj.dst with | some d => !(miReads mi).contains d | none => true)
    | _, _ => true

def cDraw (ops : List Oper) (ms : List MI) : MCode :=
  let ons := ops.map fun o => (o.after.toList.filter (Region.binds .any)).map (·.on)
  let tb := tblGo ons []
  let acts := fun (ms : List MI) => (List.range ms.length).filter fun i => match ms[i]? with | some m => clsOf m.op == 2 | none => false
  if drawOk ons tb ms then .draw (ms.zipIdx.map fun x => mkDI tb (acts ms) x.2 x.1)
  else if drawOk ons tb (ms.map toF) && lateOk ms then .seq (.ops (ms.filter isFl)) (.draw ((ms.map toF).zipIdx.map fun x => mkDI tb (acts (ms.map toF)) x.2 x.1))
  else .bad

def cCode (X : Exts) : Code → MCode
  | .skip => .skip
  | .region _ ops draw => if draw then (if P.follows .mixedOrders then cDraw ops.toList (ops.toList.map (cOper P X ops.toList)) else .bad) else .ops (ops.toList.map (cOper P X ops.toList))
  | .seq a b => .seq (cCode X a) (cCode X b)
  | .cond c a b => (match rnd? P c with | some r => .cond r (cCode X a) (cCode X b) | none => .bad)
  | .block id a => .block id (cCode X a)
  | .loop a => .loop (cCode X a)
  | .exit id => .exit id
  | .ret => .ret
  | _ => .bad

def cRes : ResultVar → Option MRes
  | .tmp t => some (.tmp t)
  | .cell a t => (agg? P t).map fun n => .cell a n

def cRess : List ResultVar → Option (List MRes)
  | [] => some []
  | r :: rs => match cRes P r, cRess rs with
    | some a, some l => some (a :: l)
    | _, _ => none

end Go.Jx
