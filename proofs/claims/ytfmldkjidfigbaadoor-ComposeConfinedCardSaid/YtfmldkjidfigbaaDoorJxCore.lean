/-
  A deterministic evaluator ('the plain machine') for the operations that the dumps of this seat bear: values with ids in the place of addresses, a list of objects in the place of memory, no tape. 'compile' makes its code out of the model's own code. (What the evaluator answers holds of the model: JxSound.)
-/
import Derived.Below
import Derived.KernelRfl
namespace Go.Jx
open Go

/-- A value of one cell. 'slice': where it begins, how long, how far its object goes from there. 'eslice': an empty slice that is not nil, at no known place ('known': its capacity is 0). -/
inductive SV where
  | bool (b : Bool) | int (k : IntKind) (n : Int) | str (s : List UInt8)
  | nilp | ptr (id off : Nat) | nils | slice (id off len cap : Nat) | eslice (known : Bool)
  | func (f : Nat) (caps : List (Nat × Nat)) | nilf | nili | anyp
  deriving DecidableEq, Inhabited

inductive AV where
  | sc (s : SV) | agg (cs : List SV) | tup (vs : List AV)
  deriving Inhabited

def undefA : AV := .tup []

inductive Kind where | own | grow | ro
  deriving DecidableEq

inductive AO where
  | cells (t : TypeId) (k : Kind) (cs : List SV)
  | iter (s : List UInt8) (pos : Nat)
  | dead

/-- Memory: the newest object first; 'n' objects; the id of an object is its number from the eldest one. -/
structure Heap where
  n : Nat
  l : List AO

def Heap.get (h : Heap) (id : Nat) : Option AO := if id < h.n then h.l[h.n - 1 - id]? else none
def Heap.push (h : Heap) (o : AO) : Heap := ⟨h.n + 1, o :: h.l⟩
def Heap.set (h : Heap) (id : Nat) (o : AO) : Heap := if id < h.n then ⟨h.n, h.l.set (h.n - 1 - id) o⟩ else h

inductive Rnd where
  | t (i : Nat) | k (v : AV)

def rd (e : List AV) : Rnd → AV
  | .t i => e.getD i undefA
  | .k v => v

inductive LK where | int (k : IntKind) | bool | str
  deriving DecidableEq

/-- What an equality compares. -/
inductive EqQ where | no | bool | ptr | slice | func | agg (ks : List LK)
  deriving DecidableEq

inductive Cv where
  | int (k : IntKind) | strId | bytesStr | runesStr | intStr | ptrUnsafe | unsafePtr (u : TypeId) (n : Nat)

inductive MOp where
  | bad
  | move (x : Rnd)
  | pick (c a b : Rnd)
  | alloc (t : TypeId) (zero : List SV)
  | box (t : TypeId) (x : Rnd)
  | build (zero : List SV) (parts : List (Nat × Nat × Rnd))
  | buildSlice (t : TypeId) (size len : Nat) (zero : List SV) (parts : List (Nat × Nat × Rnd))
  | load (agg : Option Nat) (x : Rnd)
  | store (size : Nat) (x v : Rnd)
  | nilCheck (x : Rnd)
  | bin (op : BinOp) (q : EqQ) (x y : Rnd)
  | un (op : UnOp) (x : Rnd)
  | conv (c : Cv) (x : Rnd)
  | makeFunc (f : Nat) (caps : List Rnd)
  | makeSlice (t : TypeId) (size bytes : Nat) (zero : List SV) (len cap : Rnd)
  | sliceStr (x : Rnd) (lo hi : Option Rnd)
  | slice (size : Nat) (x : Rnd) (lo hi : Option Rnd)
  | sliceArr (n size : Nat) (x : Rnd) (lo hi : Option Rnd)
  | fieldAddr (off : Nat) (x : Rnd)
  | field (off : Nat) (agg : Option Nat) (x : Rnd)
  | indexSlice (size : Nat) (x i : Rnd)
  | indexArr (len size : Nat) (x i : Rnd)
  | idxArr (len size : Nat) (agg : Option Nat) (x i : Rnd)
  | idxStr (x i : Rnd)
  | range (x : Rnd)
  | next (x : Rnd)
  | extract (x : Rnd) (i : Nat)
  | append (t : TypeId) (size bytes : Nat) (zero : List SV) (s x : Rnd)
  | copy (size : Nat) (d s : Rnd)
  | clear (zero : List SV) (x : Rnd)
  | lenStr (x : Rnd) | lenSlice (x : Rnd) | lenArr (n : Nat)
  | min (xs : List Rnd) | max (xs : List Rnd)
  | usliceData (x : Rnd)
  | ustring (u : TypeId) (x n : Rnd)
  | same (x : Rnd)
  | indexByte (x c : Rnd)
  | call (f : Nat) (args : List Rnd)
  | callv (x : Rnd) (args : List Rnd)

structure MI where
  dst : Option Nat
  op : MOp
  guard : Option (Nat × Bool)

/-- One operation of a region that draws its order. 'cls': 0 pure, 1 a load, 2 an act. 'lo', 'hi': the acts ahead of it and behind it (in the text) that may come on its other side. -/
structure DI where
  mi : MI
  cls : Nat
  lo : List Nat
  hi : List Nat

inductive MCode where
  | bad | skip | ops (l : List MI) | draw (l : List DI)
  | known | seq (a b : MCode) | cond (c : Rnd) (a b : MCode) | block (id : Nat) (a : MCode) | loop (a : MCode) | exit (id : Nat) | ret

inductive MRes where
  | tmp (t : Nat) | cell (t : Nat) (agg : Option Nat)

structure MFunc where
  ntmps : Nat
  results : List MRes
  code : MCode

/-! ## operations -/

def cellsOfAV : AV → Option (List SV)
  | .sc s => some [s]
  | .agg cs => some cs
  | .tup _ => none

/-- Cells from a place on, if they are there. -/
def readN (cs : List SV) (off n : Nat) : Option (List SV) := if off + n ≤ cs.length then some ((cs.drop off).take n) else none
def writeN (cs : List SV) (off : Nat) (vs : List SV) : Option (List SV) := if off + vs.length ≤ cs.length then some (cs.take off ++ vs ++ cs.drop (off + vs.length)) else none

def fillA (cells : List SV) : List (Nat × Nat × AV) → Option (List SV)
  | [] => some cells
  | (off, size, v) :: r =>
    match cellsOfAV v with
    | none => none
    | some vs => if vs.length = size then (match writeN cells off vs with | some c => fillA c r | none => none) else none

def partA (g : Option Nat) (cs : List SV) (off : Nat) : Option AV :=
  match g with
  | some n => (readN cs off n).map .agg
  | none => (cs[off]?).map .sc

def loadA (agg : Option Nat) (x : AV) (h : Heap) : Option AV :=
  match x with
  | .sc (.ptr id off) =>
    match h.get id with
    | some (.cells _ _ cs) => partA agg cs off
    | _ => none
  | _ => none

def storeA (size : Nat) (x v : AV) (h : Heap) : Option Heap :=
  match x with
  | .sc (.ptr id off) =>
    match h.get id, cellsOfAV v with
    | some (.cells t k cs), some vs =>
      if vs.length = size ∧ k ≠ .ro then (writeN cs off vs).map fun cs' => h.set id (.cells t k cs') else none
    | _, _ => none
  | _ => none

def cmpInt (op : BinOp) (x y : Int) : Option Bool :=
  match op with
  | .eql => some (x == y) | .neq => some (x != y) | .lss => some (decide (x < y)) | .leq => some (decide (x ≤ y)) | .gtr => some (decide (x > y)) | .geq => some (decide (x ≥ y))
  | _ => none

def bitsInt (op : BinOp) (k : IntKind) (x y : Int) : Option Int :=
  let a := BitVec.ofInt k.bits x
  let b := BitVec.ofInt k.bits y
  match op with
  | .and => some (k.wrap (a &&& b).toNat) | .or => some (k.wrap (a ||| b).toNat) | .xor => some (k.wrap (a ^^^ b).toNat) | .andNot => some (k.wrap (a &&& ~~~b).toNat)
  | _ => none

def intA (op : BinOp) (k : IntKind) (x y : Int) : Option AV :=
  match op with
  | .add => some (.sc (.int k (k.wrap (x + y))))
  | .sub => some (.sc (.int k (k.wrap (x - y))))
  | .mul => some (.sc (.int k (k.wrap (x * y))))
  | .quo => if y = 0 then none else some (.sc (.int k (k.wrap (x.tdiv y))))
  | .rem => if y = 0 then none else some (.sc (.int k (x.tmod y)))
  | .and | .or | .xor | .andNot => (bitsInt op k x y).map fun n => .sc (.int k n)
  | _ => (cmpInt op x y).map fun b => .sc (.bool b)

def shiftA (op : BinOp) (k : IntKind) (x y : Int) : Option AV :=
  if y < 0 then none else
  match op with
  | .shl => some (.sc (.int k (k.wrap (x * 2 ^ (Min.min y.toNat k.bits)))))
  | .shr => some (.sc (.int k (x.fdiv (2 ^ (Min.min y.toNat k.bits)))))
  | _ => none

def strA (op : BinOp) (x y : List UInt8) : Option AV :=
  match op with
  | .add => if ((x.length + y.length : Nat) : Int) > IntKind.i64.max then none else some (.sc (.str (x ++ y)))
  | .eql => some (.sc (.bool (x == y))) | .neq => some (.sc (.bool (!(x == y))))
  | .lss => some (.sc (.bool (Op.bytesLess x y))) | .leq => some (.sc (.bool (Op.bytesLess x y || x == y)))
  | .gtr => some (.sc (.bool (!(Op.bytesLess x y || x == y)))) | .geq => some (.sc (.bool (!Op.bytesLess x y)))
  | _ => none

/-- Cells of these kinds, one by one. -/
def fits : List LK → List SV → Bool
  | [], [] => true
  | .int k :: ks, .int j _ :: x => k == j && fits ks x
  | .bool :: ks, .bool _ :: x => fits ks x
  | .str :: ks, .str _ :: x => fits ks x
  | _, _ => false

def eqA (q : EqQ) (x y : AV) : Option Bool :=
  match q, x, y with
  | .bool, .sc (.bool a), .sc (.bool b) => some (a == b)
  | .ptr, .sc .nilp, .sc .nilp => some true
  | .ptr, .sc .nilp, .sc (.ptr _ _) => some false
  | .ptr, .sc (.ptr _ _), .sc .nilp => some false
  | .ptr, .sc (.ptr i o), .sc (.ptr j p) => if i = j then some (o == p) else none
  | .slice, .sc .nils, .sc .nils => some true
  | .slice, .sc .nils, .sc (.slice _ _ _ _) => some false
  | .slice, .sc .nils, .sc (.eslice _) => some false
  | .slice, .sc (.slice _ _ _ _), .sc .nils => some false
  | .slice, .sc (.eslice _), .sc .nils => some false
  | .func, .sc .nilf, .sc .nilf => some true
  | .func, .sc (.func _ _), .sc .nilf => some false
  | .func, .sc .nilf, .sc (.func _ _) => some false
  | .agg ks, .agg xs, .agg ys => if fits ks xs ∧ fits ks ys then some (decide (xs = ys)) else none
  | _, _, _ => none

def binA (op : BinOp) (q : EqQ) (x y : AV) : Option AV :=
  match x, y with
  | .sc (.int k a), .sc (.int j b) => if op = .shl ∨ op = .shr then shiftA op k a b else if k = j then intA op k a b else none
  | .sc (.str a), .sc (.str b) => strA op a b
  | _, _ =>
    match op with
    | .eql => (eqA q x y).map fun b => .sc (.bool b)
    | .neq => (eqA q x y).map fun b => .sc (.bool (!b))
    | _ => none

def unA (op : UnOp) (x : AV) : Option AV :=
  match op, x with
  | .neg, .sc (.int k n) => intA .sub k 0 n
  | .xor, .sc (.int k n) => intA .xor k (if k.signed then -1 else k.max) n
  | .not, .sc (.bool b) => some (.sc (.bool (!b)))
  | _, _ => none

def natA : AV → Option Nat
  | .sc (.int _ n) => if 0 ≤ n then some n.toNat else none
  | _ => none

/-- The bounds of a slicing: from, to. -/
def boundsA (len cap : Nat) (lo hi : Option AV) : Option (Nat × Nat) :=
  match (match hi with | none => some len | some v => natA v) with
  | none => none
  | some h =>
    match (match lo with | none => some 0 | some v => natA v) with
    | none => none
    | some l => if h ≤ cap ∧ l ≤ h then some (l, h) else none

def sliceA (size : Nat) (x : AV) (lo hi : Option AV) : Option AV :=
  match x with
  | .sc .nils => (boundsA 0 0 lo hi).map fun _ => .sc .nils
  | .sc (.eslice b) => (boundsA 0 0 lo hi).map fun _ => .sc (.eslice b)
  | .sc (.slice id off len cap) =>
    match boundsA len cap lo hi with
    | none => none
    | some (l, g) =>
      if l = cap ∧ 0 < cap then some (.sc (.eslice false))
      else some (.sc (.slice id (off + l * size) (g - l) (cap - l)))
  | _ => none

def idxA (len : Nat) (i : AV) : Option Nat :=
  match i with
  | .sc (.int _ n) => if 0 ≤ n ∧ n < (len : Int) then some n.toNat else none
  | _ => none

/-- The elements of a slice or a string that an append or a copy takes. -/
def firstA (size n : Nat) (x : AV) (h : Heap) : Option (List SV) :=
  match x with
  | .sc .nils => some []
  | .sc (.eslice _) => if n = 0 then some [] else none
  | .sc (.slice id off _ _) =>
    if n * size = 0 then some [] else
    match h.get id with
    | some (.cells _ _ cs) => readN cs off (n * size)
    | _ => none
  | .sc (.str s) => some ((s.take n).map fun b => .int .u8 b.toNat)
  | _ => none

def lenA : AV → Option Nat
  | .sc .nils => some 0
  | .sc (.eslice _) => some 0
  | .sc (.slice _ _ len _) => some len
  | .sc (.str s) => some s.length
  | _ => none

/-- What no memory could refuse. -/
def roomA (need bytes : Nat) : Bool := decide (0 < bytes ∧ (4 * need + 1000) * bytes ≤ 2 ^ 48)

/-- The same, of a slice whose place is far too small (less than half): it gets just what it needs. -/
def roomC (need cap bytes : Nat) : Bool := roomA need bytes || decide (2 * cap < need ∧ 0 < bytes ∧ need * bytes ≤ 2 ^ 48)

def zerosA (zero : List SV) : Nat → List SV
  | 0 => []
  | n + 1 => zero ++ zerosA zero n

/-- A slice grows into a new object. -/
def grownA (t : TypeId) (bytes : Nat) (old new : List SV) (need cap : Nat) (h : Heap) : Option (AV × Heap) :=
  if roomC need cap bytes then some (.sc (.slice h.n 0 need need), h.push (.cells t .grow (old ++ new))) else none

def appendA (t : TypeId) (size bytes : Nat) (s x : AV) (h : Heap) : Option (AV × Heap) :=
  match lenA x with
  | none => none
  | some n =>
    match firstA size n x h with
    | none => none
    | some new =>
      if n = 0 then
        (match s with
        | .sc .nils => some (s, h)
        | .sc (.eslice _) => some (s, h)
        | .sc (.slice _ _ len cap) => if len ≤ cap then some (s, h) else none
        | _ => none)
      else
      if new.length ≠ n * size then none else
      match s with
      | .sc .nils => grownA t bytes [] new n 0 h
      | .sc (.eslice true) => grownA t bytes [] new n 0 h
      | .sc (.slice id off len cap) =>
        (match h.get id with
        | some (.cells t' .own cs) =>
          if len + n ≤ cap then
            (match writeN cs (off + len * size) new with
            | some cs' => some (.sc (.slice id off (len + n) cap), h.set id (.cells t' .own cs'))
            | none => none)
          else
            (match readN cs off (len * size) with
            | some old => grownA t bytes old new (len + n) cap h
            | none => none)
        | some (.cells t' .grow cs) =>
          if off = 0 ∧ t' = t ∧ cap * size = cs.length ∧ roomA (len + n) bytes then
            (match readN cs 0 (len * size) with
            | some old => some (.sc (.slice h.n 0 (len + n) (len + n)), (h.set id .dead).push (.cells t .grow (old ++ new)))
            | none => none)
          else none
        | _ => none)
      | _ => none

def copyA (size : Nat) (d s : AV) (h : Heap) : Option (AV × Heap) :=
  match lenA s with
  | none => none
  | some sl =>
    match d with
    | .sc .nils => some (.sc (.int .i64 0), h)
    | .sc (.eslice _) => some (.sc (.int .i64 0), h)
    | .sc (.slice id off len _) =>
      (match firstA size (Nat.min sl len) s h with
      | none => none
      | some new =>
        if new = [] then some (.sc (.int .i64 (Nat.min sl len)), h) else
        match h.get id with
        | some (.cells t k cs) =>
          if k = .ro then none else
          (match writeN cs off new with
          | some cs' => some (.sc (.int .i64 (Nat.min sl len)), h.set id (.cells t k cs'))
          | none => none)
        | _ => none)
    | _ => none

def clearA (zero : List SV) (x : AV) (h : Heap) : Option Heap :=
  match x with
  | .sc .nils => some h
  | .sc (.eslice _) => some h
  | .sc (.slice id off len _) =>
    if len = 0 then some h else
    match h.get id with
    | some (.cells t k cs) => if k = .ro then none else (writeN cs off (zerosA zero len)).map fun cs' => h.set id (.cells t k cs')
    | _ => none
  | _ => none

def bytesOfCells : List SV → Option (List UInt8)
  | [] => some []
  | .int .u8 n :: r => if 0 ≤ n ∧ n < 256 then (bytesOfCells r).map (UInt8.ofNat n.toNat :: ·) else none
  | _ => none

def runesOfCells : List SV → Option (List UInt8)
  | [] => some []
  | .int .i32 n :: r => (runesOfCells r).map ((Utf8.encode n).data.toList ++ ·)
  | _ => none

def convA (c : Cv) (x : AV) (h : Heap) : Option (AV × Heap) :=
  match c, x with
  | .int k, .sc (.int _ n) => some (.sc (.int k (k.wrap n)), h)
  | .strId, .sc (.str s) => some (.sc (.str s), h)
  | .intStr, .sc (.int _ n) => some (.sc (.str (Utf8.encode n).data.toList), h)
  | .bytesStr, .sc (.str _) => none
  | .runesStr, .sc (.str _) => none
  | .bytesStr, x =>
    (match lenA x with
    | none => none
    | some n => match firstA 1 n x h with
      | none => none
      | some cs => (bytesOfCells cs).map fun s => (.sc (.str s), h))
  | .runesStr, x =>
    (match lenA x with
    | none => none
    | some n => match firstA 1 n x h with
      | none => none
      | some cs => (runesOfCells cs).map fun s => (.sc (.str s), h))
  | .ptrUnsafe, .sc .nilp => some (.sc .nilp, h)
  | .ptrUnsafe, .sc (.ptr id off) =>
    (match h.get id with
    | some (.cells _ _ cs) => if off < cs.length then some (.sc (.ptr id off), h) else none
    | _ => none)
  | .unsafePtr _ _, .sc .nilp => some (.sc .nilp, h)
  | .unsafePtr u n, .sc (.ptr id off) =>
    (match h.get id with
    | some (.cells t .own cs) => if t = u ∧ off = 0 ∧ 0 < n ∧ n ≤ cs.length then some (.sc (.ptr id off), h) else none
    | _ => none)
  | _, _ => none

def capsA : List AV → Option (List (Nat × Nat))
  | [] => some []
  | .sc (.ptr i o) :: r => (capsA r).map ((i, o) :: ·)
  | _ => none

def minA : AV → AV → Option AV
  | .sc (.int k x), .sc (.int _ y) => some (.sc (.int k (if y < x then y else x)))
  | _, _ => none
def maxA : AV → AV → Option AV
  | .sc (.int k x), .sc (.int _ y) => some (.sc (.int k (if y > x then y else x)))
  | _, _ => none
def foldA (f : AV → AV → Option AV) : AV → List AV → Option AV
  | x, [] => some x
  | x, y :: r => match f x y with | some z => foldA f z r | none => none

def nextA (x : AV) (h : Heap) : Option (AV × Heap) :=
  match x with
  | .sc (.ptr id 0) =>
    match h.get id with
    | some (.iter s pos) =>
      if pos < s.length then
        let d := Utf8.decode ⟨s.toArray⟩ pos
        some (.tup [.sc (.bool true), .sc (.int .i64 pos), .sc (.int .i32 d.1)], h.set id (.iter s (pos + d.2)))
      else some (.tup [.sc (.bool false)], h)
    | _ => none
  | _ => none

def ustringA (u : TypeId) (x n : AV) (h : Heap) : Option (AV × Heap) :=
  match n with
  | .sc (.int _ n) =>
    if n < 0 ∨ n > IntKind.i64.max then none
    else if n = 0 then
      (match x with
      | .sc .nilp => some (.sc (.str []), h)
      | .sc .anyp => some (.sc (.str []), h)
      | .sc (.ptr _ _) => some (.sc (.str []), h)
      | _ => none)
    else
    (match x with
    | .sc (.ptr id off) =>
      (match h.get id with
      | some (.cells t k cs) =>
        if t = u ∧ k ≠ .ro ∧ off = 0 then
        (match readN cs off n.toNat with
        | some bs => (bytesOfCells bs).map fun s => (.sc (.str s), h.set id (.cells t .ro cs))
        | none => none)
        else none
      | _ => none)
    | _ => none)
  | _ => none

def indexByteA (s : List UInt8) (c : Int) : Int :=
  match (List.range s.length).find? (fun i => s.getD i 0 == UInt8.ofNat c.toNat) with
  | some i => i
  | none => -1

/-- An operation that looks at no memory. -/
def pureA (op : MOp) (e : List AV) : Option AV :=
  match op with
  | .move x => some (rd e x)
  | .pick c a b => (match rd e c with | .sc (.bool t) => some (if t then rd e a else rd e b) | _ => none)
  | .build zero parts => (fillA zero (parts.map fun p => (p.1, p.2.1, rd e p.2.2))).map .agg
  | .nilCheck x => (match rd e x with | .sc (.ptr i o) => some (.sc (.ptr i o)) | .sc (.func f c) => some (.sc (.func f c)) | _ => none)
  | .bin op q x y => binA op q (rd e x) (rd e y)
  | .un op x => unA op (rd e x)
  | .conv (.int k) x => (match rd e x with | .sc (.int _ n) => some (.sc (.int k (k.wrap n))) | _ => none)
  | .makeFunc f caps => (capsA (caps.map (rd e))).map fun l => .sc (.func f l)
  | .sliceStr x lo hi =>
    (match rd e x with
    | .sc (.str s) => (boundsA s.length s.length (lo.map (rd e)) (hi.map (rd e))).map fun b => .sc (.str ((s.take b.2).drop b.1))
    | _ => none)
  | .slice size x lo hi => sliceA size (rd e x) (lo.map (rd e)) (hi.map (rd e))
  | .fieldAddr off x => (match rd e x with | .sc (.ptr i o) => some (.sc (.ptr i (o + off))) | _ => none)
  | .field off agg x =>
    (match rd e x with
    | .agg cs => partA agg cs off
    | _ => none)
  | .indexSlice size x i =>
    (match rd e x with
    | .sc (.slice id off len _) => (idxA len (rd e i)).map fun k => .sc (.ptr id (off + k * size))
    | _ => none)
  | .indexArr len size x i =>
    (match rd e x with
    | .sc (.ptr id off) => (idxA len (rd e i)).map fun k => .sc (.ptr id (off + k * size))
    | _ => none)
  | .idxArr len size agg x i =>
    (match rd e x with
    | .agg cs => (match idxA len (rd e i) with | some k => partA agg cs (k * size) | none => none)
    | _ => none)
  | .idxStr x i =>
    (match rd e x, rd e i with
    | .sc (.str s), .sc (.int _ n) => if 0 ≤ n then (s[n.toNat]?).map (fun b => .sc (.int .u8 b.toNat)) else none
    | _, _ => none)
  | .extract x i => (match rd e x with | .tup vs => vs[i]? | _ => none)
  | .lenStr x => (match rd e x with | .sc (.str s) => some (.sc (.int .i64 s.length)) | _ => none)
  | .lenSlice x => (match rd e x with | .sc .nils => some (.sc (.int .i64 0)) | .sc (.eslice _) => some (.sc (.int .i64 0)) | .sc (.slice _ _ len _) => some (.sc (.int .i64 len)) | _ => none)
  | .lenArr n => some (.sc (.int .i64 n))
  | .min xs => (match xs.map (rd e) with | x :: r => foldA minA x r | [] => none)
  | .max xs => (match xs.map (rd e) with | x :: r => foldA maxA x r | [] => none)
  | .same x => some (rd e x)
  | .indexByte x c => (match rd e x, rd e c with | .sc (.str s), .sc (.int .u8 c) => some (.sc (.int .i64 (indexByteA s c))) | _, _ => none)
  | _ => none

/-- An operation, but for calls. -/
def opA (op : MOp) (e : List AV) (h : Heap) : Option (AV × Heap) :=
  match op with
  | .alloc t zero => some (.sc (.ptr h.n 0), h.push (.cells t .own zero))
  | .box t x => (cellsOfAV (rd e x)).map fun cs => (.sc (.ptr h.n 0), h.push (.cells t .own cs))
  | .buildSlice t _ len zero parts => (fillA (zerosA zero len) (parts.map fun p => (p.1, p.2.1, rd e p.2.2))).map fun cs => (.sc (.slice h.n 0 len len), h.push (.cells t .own cs))
  | .load agg x => (loadA agg (rd e x) h).map fun v => (v, h)
  | .store size x v => (storeA size (rd e x) (rd e v) h).map fun h' => (undefA, h')
  | .conv (.int k) x => (match rd e x with | .sc (.int _ n) => some (.sc (.int k (k.wrap n)), h) | _ => none)
  | .conv c x => convA c (rd e x) h
  | .makeSlice t _ bytes zero len cap =>
    (match natA (rd e len), natA (rd e cap) with
    | some l, some c => if l ≤ c ∧ bytes * c ≤ 2 ^ 48 ∧ (c : Int) ≤ IntKind.i64.max then some (.sc (.slice h.n 0 l c), h.push (.cells t .own (zerosA zero c))) else none
    | _, _ => none)
  | .sliceArr n size x lo hi =>
    (match rd e x with
    | .sc (.ptr id off) => (match boundsA n n (lo.map (rd e)) (hi.map (rd e)) with
      | some (l, g) => (match h.get id with | some (.cells _ .own _) => if l = n then none else some (.sc (.slice id (off + l * size) (g - l) (n - l)), h) | _ => none)
      | none => none)
    | _ => none)
  | .range x => (match rd e x with | .sc (.str s) => some (.sc (.ptr h.n 0), h.push (.iter s 0)) | _ => none)
  | .next x => nextA (rd e x) h
  | .append t size bytes _ s x => appendA t size bytes (rd e s) (rd e x) h
  | .copy size d s => copyA size (rd e d) (rd e s) h
  | .clear zero x => (clearA zero (rd e x) h).map fun h' => (undefA, h')
  | .usliceData x => (match rd e x with | .sc .nils => some (.sc .nilp, h) | .sc (.slice id off _ cap) => if cap = 0 then none else some (.sc (.ptr id off), h) | _ => none)
  | .ustring u x n => ustringA u (rd e x) (rd e n) h
  | op => (pureA op e).map fun v => (v, h)

inductive Ex where | normal | exit (id : Nat) | ret
  deriving DecidableEq

def put (e : List AV) (dst : Option Nat) (v : AV) : List AV := match dst with | some d => e.set d v | none => e

def boolIs (x : AV) (b : Bool) : Bool :=
  match x with
  | .sc (.bool c) => c == b
  | _ => false

def wantedA (e : List AV) : Option (Nat × Bool) → Bool
  | none => true
  | some (t, b) => boolIs (e.getD t undefA) b

def resultA (e : List AV) (h : Heap) : MRes → Option AV
  | .tmp t => some (e.getD t undefA)
  | .cell t agg => loadA agg (e.getD t undefA) h

def resultsAll (e : List AV) (h : Heap) : List MRes → Option (List AV)
  | [] => some []
  | r :: rs => match resultA e h r with
    | none => none
    | some v => (resultsAll e h rs).map (v :: ·)

def notTup : AV → Bool
  | .tup _ => false
  | _ => true

def resultsA (rs : List MRes) (e : List AV) (h : Heap) : Option AV :=
  match resultsAll e h rs with
  | some [v] => some v
  | some l => if l.all notTup then some (.tup l) else none
  | none => none

def sameAV : AV → AV → Bool
  | .sc a, .sc b => decide (a = b)
  | .agg a, .agg b => decide (a = b)
  | _, _ => false

/-- What one operation of a drawn region did, in the text's order: its value, what a load read, memory ahead and behind. -/
structure Rec where
  on : Bool
  v : AV
  x : AV
  h : Heap
  h' : Heap

def loadIs (op : MOp) (x : AV) (h : Heap) (v : AV) : Bool :=
  match op with
  | .load agg _ => (match loadA agg x h with | some u => sameAV u v | none => false)
  | _ => false

/-- Whatever order is drawn, each load reads the same. -/
def checkLoads (recs : List Rec) : List DI → List Rec → Bool
  | d :: l, r :: rs =>
    (d.cls != 1 || !r.on || ((d.lo.all fun j => match recs[j]? with | some q => loadIs d.mi.op r.x q.h r.v | none => false) && (d.hi.all fun j => match recs[j]? with | some q => loadIs d.mi.op r.x q.h' r.v | none => false)))
      && checkLoads recs l rs
  | _, _ => true

inductive Job where
  | code (c : MCode) (e : List AV) (h : Heap)
  | ops (l : List MI) (e : List AV) (h : Heap)
  | dops (l full : List DI) (e : List AV) (h : Heap) (acc : List Rec)
  | call (f : Nat) (args : List AV) (h : Heap)

abbrev Out := Ex × List AV × Heap

/-- What a call in an operation enters, if it is one. -/
def calleeA (op : MOp) (e : List AV) : Option (Nat × List AV) :=
  match op with
  | .call f args => some (f, args.map (rd e))
  | .callv x args => (match rd e x with | .sc (.func f caps) => some (f, args.map (rd e) ++ caps.map fun c => .sc (.ptr c.1 c.2)) | _ => none)
  | _ => none

def isCall : MOp → Bool
  | .call _ _ => true
  | .callv _ _ => true
  | _ => false

variable (D : Nat → Option MFunc)

def run : Nat → Job → Option Out
  | 0, _ => none
  | _ + 1, .code .bad _ _ => none
  | _ + 1, .code .skip e h => some (.normal, e, h)
  | _ + 1, .code .known e h => (match e with | [] => some (.ret, [.sc (.bool true)], h) | _ => none)
  | n + 1, .code (.ops l) e h => run n (.ops l e h)
  | n + 1, .code (.draw l) e h => run n (.dops l l e h [])
  | n + 1, .code (.seq a b) e h =>
    match run n (.code a e h) with
    | some (.normal, e', h') => run n (.code b e' h')
    | r => r
  | n + 1, .code (.cond c a b) e h =>
    match rd e c with
    | .sc (.bool true) => run n (.code a e h)
    | .sc (.bool false) => run n (.code b e h)
    | _ => none
  | n + 1, .code (.block id a) e h =>
    match run n (.code a e h) with
    | some (.exit j, e', h') => if j = id then some (.normal, e', h') else some (.exit j, e', h')
    | r => r
  | n + 1, .code (.loop a) e h =>
    match run n (.code a e h) with
    | some (.normal, e', h') => run n (.code (.loop a) e' h')
    | r => r
  | _ + 1, .code (.exit id) e h => some (.exit id, e, h)
  | _ + 1, .code .ret e h => some (.ret, e, h)
  | _ + 1, .ops [] e h => some (.normal, e, h)
  | n + 1, .ops (i :: r) e h =>
    match wantedA e i.guard with
    | false => run n (.ops r (put e i.dst undefA) h)
    | true =>
      match isCall i.op with
      | true =>
        (match calleeA i.op e with
        | some (f, args) =>
          match run n (.call f args h) with
          | some (_, [v], h') => run n (.ops r (put e i.dst v) h')
          | _ => none
        | none => none)
      | false =>
        match opA i.op e h with
        | some (v, h') => run n (.ops r (put e i.dst v) h')
        | none => none
  | _ + 1, .dops [] full e h acc => if checkLoads acc.reverse full acc.reverse then some (.normal, e, h) else none
  | n + 1, .dops (i :: r) full e h acc =>
    match wantedA e i.mi.guard with
    | false => run n (.dops r full (put e i.mi.dst undefA) h (⟨false, undefA, undefA, h, h⟩ :: acc))
    | true =>
      match i.cls with
      | 0 =>
        (match pureA i.mi.op e with
        | some v => run n (.dops r full (put e i.mi.dst v) h (⟨true, v, undefA, h, h⟩ :: acc))
        | none => none)
      | 1 =>
        (match i.mi.op with
        | .load agg x =>
          (match loadA agg (rd e x) h with
          | some v => run n (.dops r full (put e i.mi.dst v) h (⟨true, v, rd e x, h, h⟩ :: acc))
          | none => none)
        | _ => none)
      | _ =>
        match isCall i.mi.op with
        | true =>
          (match calleeA i.mi.op e with
          | some (f, args) =>
            match run n (.call f args h) with
            | some (_, [v], h') => run n (.dops r full (put e i.mi.dst v) h' (⟨true, v, undefA, h, h'⟩ :: acc))
            | _ => none
          | none => none)
        | false =>
          match opA i.mi.op e h with
          | some (v, h') => run n (.dops r full (put e i.mi.dst v) h' (⟨true, v, undefA, h, h'⟩ :: acc))
          | none => none
  | n + 1, .call f args h =>
    match D f with
    | none => none
    | some m =>
      match run n (.code m.code (args ++ List.replicate (m.ntmps - args.length) undefA) h) with
      | some (.normal, e, h') => (resultsA m.results e h').map fun v => (.ret, [v], h')
      | some (.ret, e, h') => (resultsA m.results e h').map fun v => (.ret, [v], h')
      | _ => none

end Go.Jx
